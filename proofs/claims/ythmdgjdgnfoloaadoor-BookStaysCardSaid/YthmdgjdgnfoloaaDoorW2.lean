/- Walks, printed by an own program: the machine's calls compute the plain functions. -/
import Derived.Test.YthmdgjdgnfoloaaDoorW1
set_option linter.unusedVariables false
set_option linter.unusedSimpArgs false
namespace Go.Proofs.YthmdgjdgnfoloaaDoor
open Go Go.Proofs.XC
/-! tidewrack/book.next -/
theorem book_next_calls (K : Nat) (p0 : Int) (Ap1 : Option Addr) (cp1 : Nat) (p1 : List T49) (w : World) (o : Nat → Nat) (Lg2 : Nat) (hg2 : Ft (RdC (encInt .u32) (some ⟨2, 0, none⟩) glob2) w o Lg2) (Lp1 : Nat) (hp1 : Ft (RdC ET49 Ap1 p1) w o Lp1) (hcp1 : (p1).length ≤ cp1)  (r : Int) (H : book_next K p0 p1 = some r) :
    Calls Tryd.prog 49 #[.int .i64 p0, .slice Ap1 (p1).length cp1] w (Ret fun v_ w' => ∃ o' : Nat → Nat, v_ = .int .i64 r ∧ St [] w o w' o') := by
  refine x_enter (vs := [.int .i64 p0, .slice Ap1 (p1).length cp1]) Tryd.func49 rfl rfl rfl fun a hk => ?_
  obtain ⟨o0, hs, h0⟩ := St.start w o
  have fg2 := h0 _ _ hg2
  have f900020 := h0 _ _ hp1
  clear h0
  rw [book_next] at H
  refine x_seq ?_
  refine wpIn_region_lit ?_
  refine x_run tab hk (k := 1) (lv := []) (ks := [0, 1]) (e' := [(0, .int .i64 p0), (1, .slice Ap1 (p1).length cp1)]) rfl trivial fun a hk => ?_
  refine wpListIn_nil ?_
  refine then_n ?_
  refine x_seq ?_
  refine wpIn_region_lit ?_
  refine x_run tab hk (k := 6) (lv := []) (ks := [9, 10]) (e' := [(9, .int .i64 (Int.tmod (IntKind.wrap .i64 ((Int.tmod (IntKind.wrap .i64 (p0 * 256)) 281474976710597) * 256)) 281474976710597)), (10, .slice Ap1 (p1).length cp1)]) rfl ⟨(show (281474976710597 : Int) ≠ 0 from by decide), (show (281474976710597 : Int) ≠ 0 from by decide), trivial⟩ fun a hk => ?_
  refine x_op hk rfl ?_
  obtain ⟨t4, hc5, H⟩ := bindS H
  refine op_call hk ent_29 (vs := [.slice Ap1 (p1).length cp1]) rfl (book_Pack_calls K Ap1 cp1 p1 _ o0 _ f900020 hcp1   _ hc5) ?_
  rintro _ w6 ⟨o7, rfl, st8⟩
  replace f900020 := f900020.st st8 (by decide)
  replace fg2 := fg2.st st8 (by decide)
  replace hs := hs.loc0 st8 (by decide)
  have hk := hk.put 11 (.string t4) rfl
  refine x_op hk rfl ?_
  refine op_slice (o := o7) tab hk (vs := [.string t4]) (cs := [.string t4]) rfl rfl rfl rfl rfl rfl rfl rfl rfl 1 fun bx12 w9 o10 st11 f13 => ?_
  replace f900020 := f900020.st st11 (by decide)
  replace fg2 := fg2.st st11 (by decide)
  replace hs := hs.loc0 st11 (by decide)
  have f14 : Ft (Own encStr 9 (.slice (some ⟨bx12, 0, none⟩) (([t4] : List ByteArray)).length 1) ([t4] : List ByteArray)) w9 o10 1 := f13.imp fun _ h_ => Own.of_box h_ rfl (by simp)
  have hk := hk.put 12 (.slice (some ⟨bx12, 0, none⟩) (([t4] : List ByteArray)).length 1) rfl
  refine x_op hk rfl ?_
  obtain ⟨t18, hc19, H⟩ := bindS H
  refine op_call hk ent_57 (vs := [.slice (some ⟨bx12, 0, none⟩) (([t4] : List ByteArray)).length 1]) rfl (sum_Of_calls K (some ⟨bx12, 0, none⟩) 1 ([t4] : List ByteArray) _ o10 0 fg2 _ (f14.imp fun _ h_ => Own.rd h_) (Nat.le_refl _)   _ hc19) ?_
  rintro _ w20 ⟨o21, rfl, st22⟩
  replace f14 := f14.st st22 (by decide)
  replace f900020 := f900020.st st22 (by decide)
  replace fg2 := fg2.st st22 (by decide)
  replace hs := hs.loc0 st22 (by decide)
  have hk := hk.put 13 (.int .u32 t18) rfl
  refine x_run tab hk (k := 4) (lv := []) (ks := [4]) (e' := [(4, .int .i64 (Int.tmod (IntKind.wrap .i64 ((Int.tmod (IntKind.wrap .i64 ((Int.tmod (IntKind.wrap .i64 (p0 * 256)) 281474976710597) * 256)) 281474976710597) + (IntKind.wrap .i64 t18))) 281474976710597))]) rfl ⟨(show (281474976710597 : Int) ≠ 0 from by decide), trivial⟩ fun a hk => ?_
  refine wpListIn_nil ?_
  refine then_n ?_
  refine wpIn_ret ?_
  obtain rfl := Option.some.inj H
  exact x_retG hk (rs := [.tmp 4]) (vs := [.int .i64 (Int.tmod (IntKind.wrap .i64 ((Int.tmod (IntKind.wrap .i64 ((Int.tmod (IntKind.wrap .i64 (p0 * 256)) 281474976710597) * 256)) 281474976710597) + (IntKind.wrap .i64 t18))) 281474976710597)]) rfl ⟨rfl, trivial⟩ ⟨fun b_ => if b_ < w.heap.size then o b_ else (fun _ => 0) (o21 b_), rfl, hs.close0 o (fun _ => 0)⟩

/-! (*tidewrack/book.Book).close -/
set_option maxHeartbeats 4000000 in
theorem book_Book_close_calls (K : Nat) (bp0 : Nat) (Ap0_0 : Option Addr) (cp0_0 : Nat) (Ap0_1 : Option Addr) (cp0_1 : Nat) (Ap0_2 : Option Addr) (cp0_2 : Nat) (p0 : T75) (Ap1 : Option Addr) (cp1 : Nat) (p1 : List T49) (w : World) (o : Nat → Nat) (LF : Nat) (Lg2 : Nat) (hg2 : Ft (RdC (encInt .u32) (some ⟨2, 0, none⟩) glob2) w o Lg2) (Lp0 : Nat) (hp0 : Ft (Bx bp0 76 [.slice Ap0_0 (p0.l).length cp0_0, .slice Ap0_1 (p0.chains).length cp0_1, .slice Ap0_2 (p0.begun).length cp0_2]) w o Lp0) (Lp0_0 : Nat) (hp0_0 : NOwn (dRows ET49) 40 Ap0_0 cp0_0 p0.l w o Lp0_0 LF) (hcp0_0 : (p0.l).length ≤ cp0_0) (Lp0_1 : Nat) (hp0_1 : Ft (Own (encInt .i64) 3 (.slice Ap0_1 (p0.chains).length cp0_1) p0.chains) w o Lp0_1) (hcp0_1 : (p0.chains).length ≤ cp0_1) (Lp0_2 : Nat) (hp0_2 : Ft (Own ET49 50 (.slice Ap0_2 (p0.begun).length cp0_2) p0.begun) w o Lp0_2) (hcp0_2 : (p0.begun).length ≤ cp0_2) (hp1 : Ft (RdC ET49 Ap1 p1) w o Lp0_2) (hcp1 : (p1).length ≤ cp1) (hd0 : ([LF, Lp0, Lp0_0, Lp0_1, Lp0_2] : List Nat).Nodup) (hd1 : Lg2 ∉ [LF, Lp0, Lp0_0, Lp0_1, Lp0_2]) (r : T75) (H : book_Book_close K p0 p1 = some r) :
    Calls Tryd.prog 35 #[.pointer (some ⟨bp0, 0, none⟩), .slice Ap1 (p1).length cp1] w (Ret fun v_ w' => ∃ o' : Nat → Nat, ∃ A0 : Option Addr, ∃ c0 : Nat, ∃ A1 : Option Addr, ∃ c1 : Nat, ∃ A2 : Option Addr, ∃ c2 : Nat, v_ = .tuple #[] ∧ St [Lp0, Lp0_0, Lp0_1] w o w' o' ∧ Ft (Bx bp0 76 [.slice A0 (r.l).length c0, .slice A1 (r.chains).length c1, .slice A2 (r.begun).length c2]) w' o' Lp0 ∧ NOwn (dRows ET49) 40 A0 c0 (r.l) w' o' Lp0_0 LF ∧ (r.l).length ≤ c0 ∧ Ft (Own (encInt .i64) 3 (.slice A1 (r.chains).length c1) (r.chains)) w' o' Lp0_1 ∧ (r.chains).length ≤ c1 ∧ Ft (Own ET49 50 (.slice A2 (r.begun).length c2) (r.begun)) w' o' Lp0_2 ∧ (r.begun).length ≤ c2) := by
  refine x_enter (vs := [.pointer (some ⟨bp0, 0, none⟩), .slice Ap1 (p1).length cp1]) Tryd.func35 rfl rfl rfl fun a hk => ?_
  obtain ⟨oi, hs0, h0, h1, hob, hoz, hoa⟩ := St.startM2 w o (m := 5) hd0 rfl
  have hs := hs0 [2, 3, 4]
  have fg2 := h0 _ _ hd1 hg2
  have f900000 := hp0_0.conv (fun _ h_ => h1 2 3 h_ rfl rfl) (fun _ h_ => h1 0 1 h_ rfl rfl)
  have f900001 := h1 3 4 hp0_1 rfl rfl
  have f900002 := h1 4 5 hp0_2 rfl rfl
  have f900019 := h1 1 2 hp0 rfl rfl
  have f900020 := h1 4 5 hp1 rfl rfl
  clear h0 h1 hs0
  rw [book_Book_close] at H
  refine x_seq ?_
  refine x_cut (fun a_ w_ => ∃ o308 : Nat → Nat, ∃ A309 : Option Addr, ∃ c310 : Nat, ∃ l311 : List (List T49), Kn 38 a_ [(0, .pointer (some ⟨bp0, 0, none⟩)), (1, .slice Ap1 (p1).length cp1)] ∧ St [2, 3, 4] w oi w_ o308 ∧ NOwn (dRows ET49) 40 A309 c310 l311 w_ o308 3 1 ∧ Ft (Own (encInt .i64) 3 (.slice Ap0_1 (p0.chains).length cp0_1) p0.chains) w_ o308 4 ∧ Ft (Own ET49 50 (.slice Ap0_2 (p0.begun).length cp0_2) p0.begun) w_ o308 5 ∧ Ft (Bx bp0 76 [.slice A309 (l311).length c310, .slice Ap0_1 (p0.chains).length cp0_1, .slice Ap0_2 (p0.begun).length cp0_2]) w_ o308 2 ∧ Ft (RdC ET49 Ap1 p1) w_ o308 5 ∧ Ft (RdC (encInt .u32) (some ⟨2, 0, none⟩) glob2) w_ o308 0 ∧ (l311).length ≤ c310 ∧ book_Book_close_j1 K p0 p1 l311 = some r) ?_ ?_
  rotate_left
  · rintro a w314 ⟨o308, A309, c310, l311, hk, hs, f312, f900001, f900002, f900019, f900020, fg2, hc313, H⟩
    rw [book_Book_close_j1] at H
    refine then_n ?_
    refine x_cut (fun a_ w_ => ∃ o798 : Nat → Nat, ∃ A799 : Option Addr, ∃ c800 : Nat, ∃ l801 : List Int, Kn 38 a_ [] ∧ St [2, 3, 4] w oi w_ o798 ∧ NOwn (dRows ET49) 40 A309 c310 l311 w_ o798 3 1 ∧ Ft (Own (encInt .i64) 3 (.slice A799 (l801).length c800) l801) w_ o798 4 ∧ Ft (Own ET49 50 (.slice Ap0_2 (p0.begun).length cp0_2) p0.begun) w_ o798 5 ∧ Ft (Bx bp0 76 [.slice A309 (l311).length c310, .slice A799 (l801).length c800, .slice Ap0_2 (p0.begun).length cp0_2]) w_ o798 2 ∧ Ft (RdC (encInt .u32) (some ⟨2, 0, none⟩) glob2) w_ o798 0 ∧ (l801).length ≤ c800 ∧ book_Book_close_j2 p0 l311 l801 = some r) ?_ ?_
    rotate_left
    · rintro a w804 ⟨o798, A799, c800, l801, hk, hs, f312, f802, f900002, f900019, fg2, hc803, H⟩
      rw [book_Book_close_j2] at H
      obtain rfl := Option.some.inj H
      exact x_endG hk (rs := []) (vs := []) rfl trivial ⟨fun b_ => if b_ < w.heap.size then o b_ else (fun l_ => if l_ = 1 then LF else if l_ = 2 then Lp0 else if l_ = 3 then Lp0_0 else if l_ = 4 then Lp0_1 else if l_ = 5 then Lp0_2 else 0) (o798 b_), A309, c310, A799, c800, Ap0_2, cp0_2, rfl, hs.closeF (Lm := [Lp0, Lp0_0, Lp0_1]) (Sh := [Lp0_2]) hoa rfl (fun l_ => if l_ = 1 then LF else if l_ = 2 then Lp0 else if l_ = 3 then Lp0_0 else if l_ = 4 then Lp0_1 else if l_ = 5 then Lp0_2 else 0), hs.closeM_ft (o := o) (ρ := fun l_ => if l_ = 1 then LF else if l_ = 2 then Lp0 else if l_ = 3 then Lp0_0 else if l_ = 4 then Lp0_1 else if l_ = 5 then Lp0_2 else 0) f900019 (lab_at hoa (i := 1) rfl) rfl, f312.conv (fun _ h_ => hs.closeM_ft (o := o) (ρ := fun l_ => if l_ = 1 then LF else if l_ = 2 then Lp0 else if l_ = 3 then Lp0_0 else if l_ = 4 then Lp0_1 else if l_ = 5 then Lp0_2 else 0) h_ (lab_at hoa (i := 2) rfl) rfl) (fun _ h_ => hs.closeM_ft (o := o) (ρ := fun l_ => if l_ = 1 then LF else if l_ = 2 then Lp0 else if l_ = 3 then Lp0_0 else if l_ = 4 then Lp0_1 else if l_ = 5 then Lp0_2 else 0) h_ (lab_at hoa (i := 0) rfl) rfl), hc313, hs.closeM_ft (o := o) (ρ := fun l_ => if l_ = 1 then LF else if l_ = 2 then Lp0 else if l_ = 3 then Lp0_0 else if l_ = 4 then Lp0_1 else if l_ = 5 then Lp0_2 else 0) f802 (lab_at hoa (i := 3) rfl) rfl, hc803, hs.closeM_ft (o := o) (ρ := fun l_ => if l_ = 1 then LF else if l_ = 2 then Lp0 else if l_ = 3 then Lp0_0 else if l_ = 4 then Lp0_1 else if l_ = 5 then Lp0_2 else 0) f900002 (lab_at hoa (i := 4) rfl) rfl, hcp0_2⟩
    obtain ⟨q832, H⟩ := ifS H
    obtain ⟨ad833, hAad833⟩ := RdC.addr (Own.rd f900001.now) q832
    have hk_C := hk
    have f312_C := f312
    have f900001_C := f900001
    have f900002_C := f900002
    have f900019_C := f900019
    have f900020_C := f900020
    have fg2_C := fg2
    subst hAad833
    have hk := hk_C
    clear hk_C
    have f312 := f312_C
    clear f312_C
    have f900001 := f900001_C
    clear f900001_C
    have f900002 := f900002_C
    clear f900002_C
    have f900019 := f900019_C
    clear f900019_C
    have f900020 := f900020_C
    clear f900020_C
    have fg2 := fg2_C
    clear fg2_C
    obtain ⟨t837, hc838, H⟩ := bindS H
    obtain ⟨q851, H⟩ := ifS H
    refine xd_begin (o := o308) (fun W_ => True) mixed rfl rfl fun w1007 st1008 => ?_
    replace f312 := f312.st st1008 (by decide)
    replace f900001 := f900001.st st1008 (by decide)
    replace f900002 := f900002.st st1008 (by decide)
    replace f900019 := f900019.st st1008 (by decide)
    replace f900020 := f900020.st st1008 (by decide)
    replace fg2 := fg2.st st1008 (by decide)
    replace hs := hs.locQ st1008 hob rfl
    refine xd_abs fun G hG => ?_
    have N1020 : ∀ (a_ : Act) (w_ : World), (∃ o1018 : Nat → Nat, Kn 38 a_ [(15, .pointer (some ⟨bp0, 0, none⟩)), (19, .slice (some ad833) (p0.chains).length cp0_1), (23, .slice (some ad833) (p0.chains).length cp0_1), (26, .pointer (some ((⟨bp0, 0, none⟩ : Addr).add 1))), (32, .slice Ap1 (p1).length cp1)] ∧ St [2, 3, 4] w oi w_ o1018 ∧ NOwn (dRows ET49) 40 A309 c310 l311 w_ o1018 3 1 ∧ Ft (Own (encInt .i64) 3 (.slice (some ad833) (p0.chains).length cp0_1) p0.chains) w_ o1018 4 ∧ Ft (Own ET49 50 (.slice Ap0_2 (p0.begun).length cp0_2) p0.begun) w_ o1018 5 ∧ Ft (Bx bp0 76 [.slice A309 (l311).length c310, .slice (some ad833) (p0.chains).length cp0_1, .slice Ap0_2 (p0.begun).length cp0_2]) w_ o1018 2 ∧ Ft (RdC ET49 Ap1 p1) w_ o1018 5 ∧ Ft (RdC (encInt .u32) (some ⟨2, 0, none⟩) glob2) w_ o1018 0) → G 11 #[true, true, true, true, true, true, true, true, true, true, true, true, false, false, false, false, false, true, false, false, false, false, false, false] a_ w_ := by
      rintro a w1019 ⟨o1018, hk, hs, f312, f900001, f900002, f900019, f900020, fg2⟩
      refine xd_of hG ?_
      refine xd_op hk (i := 12) (by kernel_rfl) rfl rfl ?_
      refine op_quiet tab hk (lv := [.slice (some ad833) (p0.chains).length cp0_1]) (v := .slice (some ad833) (p0.chains).length cp0_1) rfl ⟨(load1 tab rfl ((Bx.cell f900019.now 1).trans rfl)), trivial⟩ ?_
      have hk := hk.put 27 (.slice (some ad833) (p0.chains).length cp0_1) rfl
      refine ⟨.inr trivial, ?_⟩
      refine xd_take tab hk (k := 7) (is := [13, 14, 15]) (ls' := #[true, true, true, true, true, true, true, true, true, true, true, true, true, true, true, true, false, true, false, false, false, false, false, false]) (lv := []) (ks := [15, 19, 30, 32]) (e' := [(15, .pointer (some ⟨bp0, 0, none⟩)), (19, .slice (some ad833) (p0.chains).length cp0_1), (30, .pointer (some (ad833.add (Int.toNat (IntKind.wrap .i64 (((p0.chains).length : Int) - 1)) * 1)))), (32, .slice Ap1 (p1).length cp1)]) (by kernel_rfl) rfl rfl (by kernel_rfl) (np_then np_body) trivial (fun W_ hS => ⟨q832, trivial⟩) fun a hk => ?_
      refine xd_op hk (i := 16) (by kernel_rfl) rfl rfl ?_
      refine op_quiet tab hk (lv := [.int .i64 (rdD 0 p0.chains (IntKind.wrap .i64 (((p0.chains).length : Int) - 1)))]) (v := .int .i64 (rdD 0 p0.chains (IntKind.wrap .i64 (((p0.chains).length : Int) - 1)))) rfl ⟨(load1 tab rfl (RdC.at0 (E := (encInt .i64)) (d := 0) (i := (IntKind.wrap .i64 (((p0.chains).length : Int) - 1))) (Own.rd f900001.now) q832 rfl)), trivial⟩ ?_
      have hk := hk.put 31 (.int .i64 (rdD 0 p0.chains (IntKind.wrap .i64 (((p0.chains).length : Int) - 1)))) rfl
      refine ⟨.inr trivial, ?_⟩
      refine xd_op hk (i := 18) (by kernel_rfl) rfl rfl ?_
      refine op_call hk ent_49 (vs := [.int .i64 (rdD 0 p0.chains (IntKind.wrap .i64 (((p0.chains).length : Int) - 1))), .slice Ap1 (p1).length cp1]) rfl (book_next_calls K (rdD 0 p0.chains (IntKind.wrap .i64 (((p0.chains).length : Int) - 1))) Ap1 cp1 p1 _ o1018 0 fg2 _ f900020 hcp1   _ hc838) ?_
      rintro _ w1024 ⟨o1025, rfl, st1026⟩
      replace f312 := f312.st st1026 (by decide)
      replace f900001 := f900001.st st1026 (by decide)
      replace f900002 := f900002.st st1026 (by decide)
      replace f900019 := f900019.st st1026 (by decide)
      replace f900020 := f900020.st st1026 (by decide)
      replace fg2 := fg2.st st1026 (by decide)
      replace hs := hs.locQ st1026 hob rfl
      have hk := hk.put 33 (.int .i64 t837) rfl
      refine ⟨.inr trivial, ?_⟩
      refine xd_op hk (i := 19) (by kernel_rfl) rfl rfl ?_
      refine op_slice (o := o1025) tab hk (vs := [.int .i64 t837]) (cs := [.int .i64 t837]) rfl rfl rfl rfl rfl rfl rfl rfl rfl 52 fun bx1030 w1027 o1028 st1029 f1031 => ?_
      replace f312 := f312.st st1029 (by decide)
      replace f900001 := f900001.st st1029 (by decide)
      replace f900002 := f900002.st st1029 (by decide)
      replace f900019 := f900019.st st1029 (by decide)
      replace f900020 := f900020.st st1029 (by decide)
      replace fg2 := fg2.st st1029 (by decide)
      replace hs := hs.locQ st1029 hob rfl
      have f1032 : Ft (Own (encInt .i64) 3 (.slice (some ⟨bx1030, 0, none⟩) (([t837] : List Int)).length 1) ([t837] : List Int)) w1027 o1028 52 := f1031.imp fun _ h_ => Own.of_box h_ rfl (by simp)
      have hk := hk.put 34 (.slice (some ⟨bx1030, 0, none⟩) (([t837] : List Int)).length 1) rfl
      refine ⟨.inr trivial, ?_⟩
      refine xd_op hk (i := 20) (by kernel_rfl) rfl rfl ?_
      refine op_append (o := o1028) (E := (encInt .i64)) (xs := p0.chains) (ys := ([t837] : List Int)) tab hk rfl rfl rfl rfl rfl rfl rfl f900001 (Own.rd f1032.now) q851 fun A1036 c1037 w1033 o1034 st1035 f1038 hc1039 => ?_
      replace f1032 := f1032.st st1035 (by decide)
      replace f312 := f312.st st1035 (by decide)
      replace f900002 := f900002.st st1035 (by decide)
      replace f900019 := f900019.st st1035 (by decide)
      replace f900020 := f900020.st st1035 (by decide)
      replace fg2 := fg2.st st1035 (by decide)
      replace hs := hs.locQ st1035 hob rfl
      have hk := hk.put 35 (.slice A1036 ((p0.chains ++ ([t837] : List Int))).length c1037) rfl
      refine ⟨.inr trivial, ?_⟩
      refine xd_take tab hk (k := 1) (is := [21, 22]) (ls' := #[true, true, true, true, true, true, true, true, true, true, true, true, true, true, true, true, true, true, true, true, true, true, true, false]) (lv := []) (ks := [35, 37]) (e' := [(35, .slice A1036 ((p0.chains ++ ([t837] : List Int))).length c1037), (37, .pointer (some ((⟨bp0, 0, none⟩ : Addr).add 1)))]) (by kernel_rfl) rfl rfl (by kernel_rfl) (np_then np_body) trivial (fun W_ hS => trivial) fun a hk => ?_
      refine xd_op hk (i := 23) (by kernel_rfl) rfl rfl ?_
      refine op_store tab hk (t := 53) (v := .slice A1036 ((p0.chains ++ ([t837] : List Int))).length c1037) (b := bp0) (k := 1) (cs' := [.slice A309 (l311).length c310, .slice A1036 ((p0.chains ++ ([t837] : List Int))).length c1037, .slice Ap0_2 (p0.begun).length cp0_2]) rfl rfl rfl rfl rfl rfl f900019 rfl rfl fun w1040 o1041 st1042 f900019_ => ?_
      replace f1032 := f1032.st st1042 (by decide)
      replace f1038 := f1038.st st1042 (by decide)
      replace f312 := f312.st st1042 (by decide)
      replace f900002 := f900002.st st1042 (by decide)
      replace f900020 := f900020.st st1042 (by decide)
      replace fg2 := fg2.st st1042 (by decide)
      replace hs := hs.locQ st1042 hob rfl
      replace f900019 := f900019_
      refine ⟨.inr trivial, ?_⟩
      refine xd_done (by kernel_rfl) ?_
      refine then_n ?_
      exact ⟨o1041, A1036, c1037, (p0.chains ++ ([t837] : List Int)), (by exact Kn.pick (ks := []) hk rfl), hs, f312, f1038, f900002, f900019, fg2, hc1039, H⟩
    have N1048 : ∀ (a_ : Act) (w_ : World), (∃ o1046 : Nat → Nat, Kn 38 a_ [(15, .pointer (some ⟨bp0, 0, none⟩)), (19, .slice (some ad833) (p0.chains).length cp0_1), (22, .pointer (some ((⟨bp0, 0, none⟩ : Addr).add 1))), (27, .slice (some ad833) (p0.chains).length cp0_1), (32, .slice Ap1 (p1).length cp1)] ∧ St [2, 3, 4] w oi w_ o1046 ∧ NOwn (dRows ET49) 40 A309 c310 l311 w_ o1046 3 1 ∧ Ft (Own (encInt .i64) 3 (.slice (some ad833) (p0.chains).length cp0_1) p0.chains) w_ o1046 4 ∧ Ft (Own ET49 50 (.slice Ap0_2 (p0.begun).length cp0_2) p0.begun) w_ o1046 5 ∧ Ft (Bx bp0 76 [.slice A309 (l311).length c310, .slice (some ad833) (p0.chains).length cp0_1, .slice Ap0_2 (p0.begun).length cp0_2]) w_ o1046 2 ∧ Ft (RdC ET49 Ap1 p1) w_ o1046 5 ∧ Ft (RdC (encInt .u32) (some ⟨2, 0, none⟩) glob2) w_ o1046 0) → G 11 #[true, true, true, true, true, true, true, true, false, true, true, true, true, false, false, false, false, true, false, false, false, false, false, false] a_ w_ := by
      rintro a w1047 ⟨o1046, hk, hs, f312, f900001, f900002, f900019, f900020, fg2⟩
      refine xd_of hG ?_
      refine xd_take tab hk (k := 9) (is := [13, 14]) (ls' := #[true, true, true, true, true, true, true, true, false, true, true, true, true, true, true, false, false, true, false, false, false, false, false, false]) (lv := []) (ks := [15, 19, 22, 29, 32]) (e' := [(15, .pointer (some ⟨bp0, 0, none⟩)), (19, .slice (some ad833) (p0.chains).length cp0_1), (22, .pointer (some ((⟨bp0, 0, none⟩ : Addr).add 1))), (29, .int .i64 (IntKind.wrap .i64 (((p0.chains).length : Int) - 1))), (32, .slice Ap1 (p1).length cp1)]) (by kernel_rfl) rfl rfl (by kernel_rfl) (np_then np_body) trivial (fun W_ hS => trivial) fun a hk => ?_
      refine xd_op hk (i := 8) (by kernel_rfl) rfl rfl ?_
      refine op_quiet tab hk (lv := [.slice (some ad833) (p0.chains).length cp0_1]) (v := .slice (some ad833) (p0.chains).length cp0_1) rfl ⟨(load1 tab rfl ((Bx.cell f900019.now 1).trans rfl)), trivial⟩ ?_
      have hk := hk.put 23 (.slice (some ad833) (p0.chains).length cp0_1) rfl
      refine ⟨.inr trivial, ?_⟩
      refine xd_take tab hk (k := 7) (is := [15]) (ls' := #[true, true, true, true, true, true, true, true, true, true, true, true, true, true, true, true, false, true, false, false, false, false, false, false]) (lv := []) (ks := [15, 19, 30, 32]) (e' := [(15, .pointer (some ⟨bp0, 0, none⟩)), (19, .slice (some ad833) (p0.chains).length cp0_1), (30, .pointer (some (ad833.add (Int.toNat (IntKind.wrap .i64 (((p0.chains).length : Int) - 1)) * 1)))), (32, .slice Ap1 (p1).length cp1)]) (by kernel_rfl) rfl rfl (by kernel_rfl) (np_then np_body) trivial (fun W_ hS => ⟨q832, trivial⟩) fun a hk => ?_
      refine xd_op hk (i := 16) (by kernel_rfl) rfl rfl ?_
      refine op_quiet tab hk (lv := [.int .i64 (rdD 0 p0.chains (IntKind.wrap .i64 (((p0.chains).length : Int) - 1)))]) (v := .int .i64 (rdD 0 p0.chains (IntKind.wrap .i64 (((p0.chains).length : Int) - 1)))) rfl ⟨(load1 tab rfl (RdC.at0 (E := (encInt .i64)) (d := 0) (i := (IntKind.wrap .i64 (((p0.chains).length : Int) - 1))) (Own.rd f900001.now) q832 rfl)), trivial⟩ ?_
      have hk := hk.put 31 (.int .i64 (rdD 0 p0.chains (IntKind.wrap .i64 (((p0.chains).length : Int) - 1)))) rfl
      refine ⟨.inr trivial, ?_⟩
      refine xd_op hk (i := 18) (by kernel_rfl) rfl rfl ?_
      refine op_call hk ent_49 (vs := [.int .i64 (rdD 0 p0.chains (IntKind.wrap .i64 (((p0.chains).length : Int) - 1))), .slice Ap1 (p1).length cp1]) rfl (book_next_calls K (rdD 0 p0.chains (IntKind.wrap .i64 (((p0.chains).length : Int) - 1))) Ap1 cp1 p1 _ o1046 0 fg2 _ f900020 hcp1   _ hc838) ?_
      rintro _ w1052 ⟨o1053, rfl, st1054⟩
      replace f312 := f312.st st1054 (by decide)
      replace f900001 := f900001.st st1054 (by decide)
      replace f900002 := f900002.st st1054 (by decide)
      replace f900019 := f900019.st st1054 (by decide)
      replace f900020 := f900020.st st1054 (by decide)
      replace fg2 := fg2.st st1054 (by decide)
      replace hs := hs.locQ st1054 hob rfl
      have hk := hk.put 33 (.int .i64 t837) rfl
      refine ⟨.inr trivial, ?_⟩
      refine xd_op hk (i := 19) (by kernel_rfl) rfl rfl ?_
      refine op_slice (o := o1053) tab hk (vs := [.int .i64 t837]) (cs := [.int .i64 t837]) rfl rfl rfl rfl rfl rfl rfl rfl rfl 53 fun bx1058 w1055 o1056 st1057 f1059 => ?_
      replace f312 := f312.st st1057 (by decide)
      replace f900001 := f900001.st st1057 (by decide)
      replace f900002 := f900002.st st1057 (by decide)
      replace f900019 := f900019.st st1057 (by decide)
      replace f900020 := f900020.st st1057 (by decide)
      replace fg2 := fg2.st st1057 (by decide)
      replace hs := hs.locQ st1057 hob rfl
      have f1060 : Ft (Own (encInt .i64) 3 (.slice (some ⟨bx1058, 0, none⟩) (([t837] : List Int)).length 1) ([t837] : List Int)) w1055 o1056 53 := f1059.imp fun _ h_ => Own.of_box h_ rfl (by simp)
      have hk := hk.put 34 (.slice (some ⟨bx1058, 0, none⟩) (([t837] : List Int)).length 1) rfl
      refine ⟨.inr trivial, ?_⟩
      refine xd_op hk (i := 20) (by kernel_rfl) rfl rfl ?_
      refine op_append (o := o1056) (E := (encInt .i64)) (xs := p0.chains) (ys := ([t837] : List Int)) tab hk rfl rfl rfl rfl rfl rfl rfl f900001 (Own.rd f1060.now) q851 fun A1064 c1065 w1061 o1062 st1063 f1066 hc1067 => ?_
      replace f1060 := f1060.st st1063 (by decide)
      replace f312 := f312.st st1063 (by decide)
      replace f900002 := f900002.st st1063 (by decide)
      replace f900019 := f900019.st st1063 (by decide)
      replace f900020 := f900020.st st1063 (by decide)
      replace fg2 := fg2.st st1063 (by decide)
      replace hs := hs.locQ st1063 hob rfl
      have hk := hk.put 35 (.slice A1064 ((p0.chains ++ ([t837] : List Int))).length c1065) rfl
      refine ⟨.inr trivial, ?_⟩
      refine xd_take tab hk (k := 1) (is := [21, 22]) (ls' := #[true, true, true, true, true, true, true, true, true, true, true, true, true, true, true, true, true, true, true, true, true, true, true, false]) (lv := []) (ks := [35, 37]) (e' := [(35, .slice A1064 ((p0.chains ++ ([t837] : List Int))).length c1065), (37, .pointer (some ((⟨bp0, 0, none⟩ : Addr).add 1)))]) (by kernel_rfl) rfl rfl (by kernel_rfl) (np_then np_body) trivial (fun W_ hS => trivial) fun a hk => ?_
      refine xd_op hk (i := 23) (by kernel_rfl) rfl rfl ?_
      refine op_store tab hk (t := 53) (v := .slice A1064 ((p0.chains ++ ([t837] : List Int))).length c1065) (b := bp0) (k := 1) (cs' := [.slice A309 (l311).length c310, .slice A1064 ((p0.chains ++ ([t837] : List Int))).length c1065, .slice Ap0_2 (p0.begun).length cp0_2]) rfl rfl rfl rfl rfl rfl f900019 rfl rfl fun w1068 o1069 st1070 f900019_ => ?_
      replace f1060 := f1060.st st1070 (by decide)
      replace f1066 := f1066.st st1070 (by decide)
      replace f312 := f312.st st1070 (by decide)
      replace f900002 := f900002.st st1070 (by decide)
      replace f900020 := f900020.st st1070 (by decide)
      replace fg2 := fg2.st st1070 (by decide)
      replace hs := hs.locQ st1070 hob rfl
      replace f900019 := f900019_
      refine ⟨.inr trivial, ?_⟩
      refine xd_done (by kernel_rfl) ?_
      refine then_n ?_
      exact ⟨o1069, A1064, c1065, (p0.chains ++ ([t837] : List Int)), (by exact Kn.pick (ks := []) hk rfl), hs, f312, f1066, f900002, f900019, fg2, hc1067, H⟩
    have N1014 : ∀ (a_ : Act) (w_ : World), (∃ o1012 : Nat → Nat, Kn 38 a_ [(15, .pointer (some ⟨bp0, 0, none⟩)), (19, .slice (some ad833) (p0.chains).length cp0_1), (22, .pointer (some ((⟨bp0, 0, none⟩ : Addr).add 1))), (26, .pointer (some ((⟨bp0, 0, none⟩ : Addr).add 1))), (32, .slice Ap1 (p1).length cp1)] ∧ St [2, 3, 4] w oi w_ o1012 ∧ NOwn (dRows ET49) 40 A309 c310 l311 w_ o1012 3 1 ∧ Ft (Own (encInt .i64) 3 (.slice (some ad833) (p0.chains).length cp0_1) p0.chains) w_ o1012 4 ∧ Ft (Own ET49 50 (.slice Ap0_2 (p0.begun).length cp0_2) p0.begun) w_ o1012 5 ∧ Ft (Bx bp0 76 [.slice A309 (l311).length c310, .slice (some ad833) (p0.chains).length cp0_1, .slice Ap0_2 (p0.begun).length cp0_2]) w_ o1012 2 ∧ Ft (RdC ET49 Ap1 p1) w_ o1012 5 ∧ Ft (RdC (encInt .u32) (some ⟨2, 0, none⟩) glob2) w_ o1012 0) → G 12 #[true, true, true, true, true, true, true, true, false, true, true, true, false, false, false, false, false, true, false, false, false, false, false, false] a_ w_ := by
      rintro a w1013 ⟨o1012, hk, hs, f312, f900001, f900002, f900019, f900020, fg2⟩
      refine xd_of hG ?_
      refine xd_each [8, 12] (by kernel_rfl) rfl ⟨?_, ?_, trivial⟩
      · refine xd_one hk rfl rfl ?_
        refine op_quiet tab hk (lv := [.slice (some ad833) (p0.chains).length cp0_1]) (v := .slice (some ad833) (p0.chains).length cp0_1) rfl ⟨(load1 tab rfl ((Bx.cell f900019.now 1).trans rfl)), trivial⟩ ?_
        have hk := hk.put 23 (.slice (some ad833) (p0.chains).length cp0_1) rfl
        refine ⟨.inr trivial, ?_⟩
        exact xd_to hG rfl (N1020 _ _ ⟨o1012, (by exact Kn.pick (ks := [15, 19, 23, 26, 32]) hk rfl), hs, f312, f900001, f900002, f900019, f900020, fg2⟩)
      · refine xd_one hk rfl rfl ?_
        refine op_quiet tab hk (lv := [.slice (some ad833) (p0.chains).length cp0_1]) (v := .slice (some ad833) (p0.chains).length cp0_1) rfl ⟨(load1 tab rfl ((Bx.cell f900019.now 1).trans rfl)), trivial⟩ ?_
        have hk := hk.put 27 (.slice (some ad833) (p0.chains).length cp0_1) rfl
        refine ⟨.inr trivial, ?_⟩
        exact xd_to hG rfl (N1048 _ _ ⟨o1012, (by exact Kn.pick (ks := [15, 19, 22, 27, 32]) hk rfl), hs, f312, f900001, f900002, f900019, f900020, fg2⟩)
    have N1088 : ∀ (a_ : Act) (w_ : World), (∃ o1086 : Nat → Nat, Kn 38 a_ [(15, .pointer (some ⟨bp0, 0, none⟩)), (19, .slice (some ad833) (p0.chains).length cp0_1), (30, .pointer (some (ad833.add (Int.toNat (IntKind.wrap .i64 (((p0.chains).length : Int) - 1)) * 1)))), (32, .slice Ap1 (p1).length cp1)] ∧ St [2, 3, 4] w oi w_ o1086 ∧ NOwn (dRows ET49) 40 A309 c310 l311 w_ o1086 3 1 ∧ Ft (Own (encInt .i64) 3 (.slice (some ad833) (p0.chains).length cp0_1) p0.chains) w_ o1086 4 ∧ Ft (Own ET49 50 (.slice Ap0_2 (p0.begun).length cp0_2) p0.begun) w_ o1086 5 ∧ Ft (Bx bp0 76 [.slice A309 (l311).length c310, .slice (some ad833) (p0.chains).length cp0_1, .slice Ap0_2 (p0.begun).length cp0_2]) w_ o1086 2 ∧ Ft (RdC ET49 Ap1 p1) w_ o1086 5 ∧ Ft (RdC (encInt .u32) (some ⟨2, 0, none⟩) glob2) w_ o1086 0) → G 7 #[true, true, true, true, true, true, true, true, true, true, true, true, true, true, true, true, false, true, false, false, false, false, false, false] a_ w_ := by
      rintro a w1087 ⟨o1086, hk, hs, f312, f900001, f900002, f900019, f900020, fg2⟩
      refine xd_of hG ?_
      refine xd_op hk (i := 16) (by kernel_rfl) rfl rfl ?_
      refine op_quiet tab hk (lv := [.int .i64 (rdD 0 p0.chains (IntKind.wrap .i64 (((p0.chains).length : Int) - 1)))]) (v := .int .i64 (rdD 0 p0.chains (IntKind.wrap .i64 (((p0.chains).length : Int) - 1)))) rfl ⟨(load1 tab rfl (RdC.at0 (E := (encInt .i64)) (d := 0) (i := (IntKind.wrap .i64 (((p0.chains).length : Int) - 1))) (Own.rd f900001.now) q832 rfl)), trivial⟩ ?_
      have hk := hk.put 31 (.int .i64 (rdD 0 p0.chains (IntKind.wrap .i64 (((p0.chains).length : Int) - 1)))) rfl
      refine ⟨.inr trivial, ?_⟩
      refine xd_op hk (i := 18) (by kernel_rfl) rfl rfl ?_
      refine op_call hk ent_49 (vs := [.int .i64 (rdD 0 p0.chains (IntKind.wrap .i64 (((p0.chains).length : Int) - 1))), .slice Ap1 (p1).length cp1]) rfl (book_next_calls K (rdD 0 p0.chains (IntKind.wrap .i64 (((p0.chains).length : Int) - 1))) Ap1 cp1 p1 _ o1086 0 fg2 _ f900020 hcp1   _ hc838) ?_
      rintro _ w1092 ⟨o1093, rfl, st1094⟩
      replace f312 := f312.st st1094 (by decide)
      replace f900001 := f900001.st st1094 (by decide)
      replace f900002 := f900002.st st1094 (by decide)
      replace f900019 := f900019.st st1094 (by decide)
      replace f900020 := f900020.st st1094 (by decide)
      replace fg2 := fg2.st st1094 (by decide)
      replace hs := hs.locQ st1094 hob rfl
      have hk := hk.put 33 (.int .i64 t837) rfl
      refine ⟨.inr trivial, ?_⟩
      refine xd_op hk (i := 19) (by kernel_rfl) rfl rfl ?_
      refine op_slice (o := o1093) tab hk (vs := [.int .i64 t837]) (cs := [.int .i64 t837]) rfl rfl rfl rfl rfl rfl rfl rfl rfl 54 fun bx1098 w1095 o1096 st1097 f1099 => ?_
      replace f312 := f312.st st1097 (by decide)
      replace f900001 := f900001.st st1097 (by decide)
      replace f900002 := f900002.st st1097 (by decide)
      replace f900019 := f900019.st st1097 (by decide)
      replace f900020 := f900020.st st1097 (by decide)
      replace fg2 := fg2.st st1097 (by decide)
      replace hs := hs.locQ st1097 hob rfl
      have f1100 : Ft (Own (encInt .i64) 3 (.slice (some ⟨bx1098, 0, none⟩) (([t837] : List Int)).length 1) ([t837] : List Int)) w1095 o1096 54 := f1099.imp fun _ h_ => Own.of_box h_ rfl (by simp)
      have hk := hk.put 34 (.slice (some ⟨bx1098, 0, none⟩) (([t837] : List Int)).length 1) rfl
      refine ⟨.inr trivial, ?_⟩
      refine xd_op hk (i := 20) (by kernel_rfl) rfl rfl ?_
      refine op_append (o := o1096) (E := (encInt .i64)) (xs := p0.chains) (ys := ([t837] : List Int)) tab hk rfl rfl rfl rfl rfl rfl rfl f900001 (Own.rd f1100.now) q851 fun A1104 c1105 w1101 o1102 st1103 f1106 hc1107 => ?_
      replace f1100 := f1100.st st1103 (by decide)
      replace f312 := f312.st st1103 (by decide)
      replace f900002 := f900002.st st1103 (by decide)
      replace f900019 := f900019.st st1103 (by decide)
      replace f900020 := f900020.st st1103 (by decide)
      replace fg2 := fg2.st st1103 (by decide)
      replace hs := hs.locQ st1103 hob rfl
      have hk := hk.put 35 (.slice A1104 ((p0.chains ++ ([t837] : List Int))).length c1105) rfl
      refine ⟨.inr trivial, ?_⟩
      refine xd_take tab hk (k := 1) (is := [21, 22]) (ls' := #[true, true, true, true, true, true, true, true, true, true, true, true, true, true, true, true, true, true, true, true, true, true, true, false]) (lv := []) (ks := [35, 37]) (e' := [(35, .slice A1104 ((p0.chains ++ ([t837] : List Int))).length c1105), (37, .pointer (some ((⟨bp0, 0, none⟩ : Addr).add 1)))]) (by kernel_rfl) rfl rfl (by kernel_rfl) (np_then np_body) trivial (fun W_ hS => trivial) fun a hk => ?_
      refine xd_op hk (i := 23) (by kernel_rfl) rfl rfl ?_
      refine op_store tab hk (t := 53) (v := .slice A1104 ((p0.chains ++ ([t837] : List Int))).length c1105) (b := bp0) (k := 1) (cs' := [.slice A309 (l311).length c310, .slice A1104 ((p0.chains ++ ([t837] : List Int))).length c1105, .slice Ap0_2 (p0.begun).length cp0_2]) rfl rfl rfl rfl rfl rfl f900019 rfl rfl fun w1108 o1109 st1110 f900019_ => ?_
      replace f1100 := f1100.st st1110 (by decide)
      replace f1106 := f1106.st st1110 (by decide)
      replace f312 := f312.st st1110 (by decide)
      replace f900002 := f900002.st st1110 (by decide)
      replace f900020 := f900020.st st1110 (by decide)
      replace fg2 := fg2.st st1110 (by decide)
      replace hs := hs.locQ st1110 hob rfl
      replace f900019 := f900019_
      refine ⟨.inr trivial, ?_⟩
      refine xd_done (by kernel_rfl) ?_
      refine then_n ?_
      exact ⟨o1109, A1104, c1105, (p0.chains ++ ([t837] : List Int)), (by exact Kn.pick (ks := []) hk rfl), hs, f312, f1106, f900002, f900019, fg2, hc1107, H⟩
    have N1122 : ∀ (a_ : Act) (w_ : World), (∃ o1120 : Nat → Nat, Kn 38 a_ [(15, .pointer (some ⟨bp0, 0, none⟩)), (19, .slice (some ad833) (p0.chains).length cp0_1), (31, .int .i64 (rdD 0 p0.chains (IntKind.wrap .i64 (((p0.chains).length : Int) - 1)))), (32, .slice Ap1 (p1).length cp1)] ∧ St [2, 3, 4] w oi w_ o1120 ∧ NOwn (dRows ET49) 40 A309 c310 l311 w_ o1120 3 1 ∧ Ft (Own (encInt .i64) 3 (.slice (some ad833) (p0.chains).length cp0_1) p0.chains) w_ o1120 4 ∧ Ft (Own ET49 50 (.slice Ap0_2 (p0.begun).length cp0_2) p0.begun) w_ o1120 5 ∧ Ft (Bx bp0 76 [.slice A309 (l311).length c310, .slice (some ad833) (p0.chains).length cp0_1, .slice Ap0_2 (p0.begun).length cp0_2]) w_ o1120 2 ∧ Ft (RdC ET49 Ap1 p1) w_ o1120 5 ∧ Ft (RdC (encInt .u32) (some ⟨2, 0, none⟩) glob2) w_ o1120 0) → G 6 #[true, true, true, true, true, true, true, true, true, true, true, true, true, true, true, true, true, true, false, false, false, false, false, false] a_ w_ := by
      rintro a w1121 ⟨o1120, hk, hs, f312, f900001, f900002, f900019, f900020, fg2⟩
      refine xd_of hG ?_
      refine xd_op hk (i := 18) (by kernel_rfl) rfl rfl ?_
      refine op_call hk ent_49 (vs := [.int .i64 (rdD 0 p0.chains (IntKind.wrap .i64 (((p0.chains).length : Int) - 1))), .slice Ap1 (p1).length cp1]) rfl (book_next_calls K (rdD 0 p0.chains (IntKind.wrap .i64 (((p0.chains).length : Int) - 1))) Ap1 cp1 p1 _ o1120 0 fg2 _ f900020 hcp1   _ hc838) ?_
      rintro _ w1126 ⟨o1127, rfl, st1128⟩
      replace f312 := f312.st st1128 (by decide)
      replace f900001 := f900001.st st1128 (by decide)
      replace f900002 := f900002.st st1128 (by decide)
      replace f900019 := f900019.st st1128 (by decide)
      replace f900020 := f900020.st st1128 (by decide)
      replace fg2 := fg2.st st1128 (by decide)
      replace hs := hs.locQ st1128 hob rfl
      have hk := hk.put 33 (.int .i64 t837) rfl
      refine ⟨.inr trivial, ?_⟩
      refine xd_op hk (i := 19) (by kernel_rfl) rfl rfl ?_
      refine op_slice (o := o1127) tab hk (vs := [.int .i64 t837]) (cs := [.int .i64 t837]) rfl rfl rfl rfl rfl rfl rfl rfl rfl 55 fun bx1132 w1129 o1130 st1131 f1133 => ?_
      replace f312 := f312.st st1131 (by decide)
      replace f900001 := f900001.st st1131 (by decide)
      replace f900002 := f900002.st st1131 (by decide)
      replace f900019 := f900019.st st1131 (by decide)
      replace f900020 := f900020.st st1131 (by decide)
      replace fg2 := fg2.st st1131 (by decide)
      replace hs := hs.locQ st1131 hob rfl
      have f1134 : Ft (Own (encInt .i64) 3 (.slice (some ⟨bx1132, 0, none⟩) (([t837] : List Int)).length 1) ([t837] : List Int)) w1129 o1130 55 := f1133.imp fun _ h_ => Own.of_box h_ rfl (by simp)
      have hk := hk.put 34 (.slice (some ⟨bx1132, 0, none⟩) (([t837] : List Int)).length 1) rfl
      refine ⟨.inr trivial, ?_⟩
      refine xd_op hk (i := 20) (by kernel_rfl) rfl rfl ?_
      refine op_append (o := o1130) (E := (encInt .i64)) (xs := p0.chains) (ys := ([t837] : List Int)) tab hk rfl rfl rfl rfl rfl rfl rfl f900001 (Own.rd f1134.now) q851 fun A1138 c1139 w1135 o1136 st1137 f1140 hc1141 => ?_
      replace f1134 := f1134.st st1137 (by decide)
      replace f312 := f312.st st1137 (by decide)
      replace f900002 := f900002.st st1137 (by decide)
      replace f900019 := f900019.st st1137 (by decide)
      replace f900020 := f900020.st st1137 (by decide)
      replace fg2 := fg2.st st1137 (by decide)
      replace hs := hs.locQ st1137 hob rfl
      have hk := hk.put 35 (.slice A1138 ((p0.chains ++ ([t837] : List Int))).length c1139) rfl
      refine ⟨.inr trivial, ?_⟩
      refine xd_take tab hk (k := 1) (is := [21, 22]) (ls' := #[true, true, true, true, true, true, true, true, true, true, true, true, true, true, true, true, true, true, true, true, true, true, true, false]) (lv := []) (ks := [35, 37]) (e' := [(35, .slice A1138 ((p0.chains ++ ([t837] : List Int))).length c1139), (37, .pointer (some ((⟨bp0, 0, none⟩ : Addr).add 1)))]) (by kernel_rfl) rfl rfl (by kernel_rfl) (np_then np_body) trivial (fun W_ hS => trivial) fun a hk => ?_
      refine xd_op hk (i := 23) (by kernel_rfl) rfl rfl ?_
      refine op_store tab hk (t := 53) (v := .slice A1138 ((p0.chains ++ ([t837] : List Int))).length c1139) (b := bp0) (k := 1) (cs' := [.slice A309 (l311).length c310, .slice A1138 ((p0.chains ++ ([t837] : List Int))).length c1139, .slice Ap0_2 (p0.begun).length cp0_2]) rfl rfl rfl rfl rfl rfl f900019 rfl rfl fun w1142 o1143 st1144 f900019_ => ?_
      replace f1134 := f1134.st st1144 (by decide)
      replace f1140 := f1140.st st1144 (by decide)
      replace f312 := f312.st st1144 (by decide)
      replace f900002 := f900002.st st1144 (by decide)
      replace f900020 := f900020.st st1144 (by decide)
      replace fg2 := fg2.st st1144 (by decide)
      replace hs := hs.locQ st1144 hob rfl
      replace f900019 := f900019_
      refine ⟨.inr trivial, ?_⟩
      refine xd_done (by kernel_rfl) ?_
      refine then_n ?_
      exact ⟨o1143, A1138, c1139, (p0.chains ++ ([t837] : List Int)), (by exact Kn.pick (ks := []) hk rfl), hs, f312, f1140, f900002, f900019, fg2, hc1141, H⟩
    have N1162 : ∀ (a_ : Act) (w_ : World), (∃ o1160 : Nat → Nat, Kn 38 a_ [(15, .pointer (some ⟨bp0, 0, none⟩)), (19, .slice (some ad833) (p0.chains).length cp0_1), (33, .int .i64 t837)] ∧ St [2, 3, 4] w oi w_ o1160 ∧ NOwn (dRows ET49) 40 A309 c310 l311 w_ o1160 3 1 ∧ Ft (Own (encInt .i64) 3 (.slice (some ad833) (p0.chains).length cp0_1) p0.chains) w_ o1160 4 ∧ Ft (Own ET49 50 (.slice Ap0_2 (p0.begun).length cp0_2) p0.begun) w_ o1160 5 ∧ Ft (Bx bp0 76 [.slice A309 (l311).length c310, .slice (some ad833) (p0.chains).length cp0_1, .slice Ap0_2 (p0.begun).length cp0_2]) w_ o1160 2 ∧ Ft (RdC (encInt .u32) (some ⟨2, 0, none⟩) glob2) w_ o1160 0) → G 5 #[true, true, true, true, true, true, true, true, true, true, true, true, true, true, true, true, true, true, true, false, false, false, false, false] a_ w_ := by
      rintro a w1161 ⟨o1160, hk, hs, f312, f900001, f900002, f900019, fg2⟩
      refine xd_of hG ?_
      refine xd_op hk (i := 19) (by kernel_rfl) rfl rfl ?_
      refine op_slice (o := o1160) tab hk (vs := [.int .i64 t837]) (cs := [.int .i64 t837]) rfl rfl rfl rfl rfl rfl rfl rfl rfl 56 fun bx1166 w1163 o1164 st1165 f1167 => ?_
      replace f312 := f312.st st1165 (by decide)
      replace f900001 := f900001.st st1165 (by decide)
      replace f900002 := f900002.st st1165 (by decide)
      replace f900019 := f900019.st st1165 (by decide)
      replace fg2 := fg2.st st1165 (by decide)
      replace hs := hs.locQ st1165 hob rfl
      have f1168 : Ft (Own (encInt .i64) 3 (.slice (some ⟨bx1166, 0, none⟩) (([t837] : List Int)).length 1) ([t837] : List Int)) w1163 o1164 56 := f1167.imp fun _ h_ => Own.of_box h_ rfl (by simp)
      have hk := hk.put 34 (.slice (some ⟨bx1166, 0, none⟩) (([t837] : List Int)).length 1) rfl
      refine ⟨.inr trivial, ?_⟩
      refine xd_op hk (i := 20) (by kernel_rfl) rfl rfl ?_
      refine op_append (o := o1164) (E := (encInt .i64)) (xs := p0.chains) (ys := ([t837] : List Int)) tab hk rfl rfl rfl rfl rfl rfl rfl f900001 (Own.rd f1168.now) q851 fun A1172 c1173 w1169 o1170 st1171 f1174 hc1175 => ?_
      replace f1168 := f1168.st st1171 (by decide)
      replace f312 := f312.st st1171 (by decide)
      replace f900002 := f900002.st st1171 (by decide)
      replace f900019 := f900019.st st1171 (by decide)
      replace fg2 := fg2.st st1171 (by decide)
      replace hs := hs.locQ st1171 hob rfl
      have hk := hk.put 35 (.slice A1172 ((p0.chains ++ ([t837] : List Int))).length c1173) rfl
      refine ⟨.inr trivial, ?_⟩
      refine xd_take tab hk (k := 1) (is := [21, 22]) (ls' := #[true, true, true, true, true, true, true, true, true, true, true, true, true, true, true, true, true, true, true, true, true, true, true, false]) (lv := []) (ks := [35, 37]) (e' := [(35, .slice A1172 ((p0.chains ++ ([t837] : List Int))).length c1173), (37, .pointer (some ((⟨bp0, 0, none⟩ : Addr).add 1)))]) (by kernel_rfl) rfl rfl (by kernel_rfl) (np_then np_body) trivial (fun W_ hS => trivial) fun a hk => ?_
      refine xd_op hk (i := 23) (by kernel_rfl) rfl rfl ?_
      refine op_store tab hk (t := 53) (v := .slice A1172 ((p0.chains ++ ([t837] : List Int))).length c1173) (b := bp0) (k := 1) (cs' := [.slice A309 (l311).length c310, .slice A1172 ((p0.chains ++ ([t837] : List Int))).length c1173, .slice Ap0_2 (p0.begun).length cp0_2]) rfl rfl rfl rfl rfl rfl f900019 rfl rfl fun w1176 o1177 st1178 f900019_ => ?_
      replace f1168 := f1168.st st1178 (by decide)
      replace f1174 := f1174.st st1178 (by decide)
      replace f312 := f312.st st1178 (by decide)
      replace f900002 := f900002.st st1178 (by decide)
      replace fg2 := fg2.st st1178 (by decide)
      replace hs := hs.locQ st1178 hob rfl
      replace f900019 := f900019_
      refine ⟨.inr trivial, ?_⟩
      refine xd_done (by kernel_rfl) ?_
      refine then_n ?_
      exact ⟨o1177, A1172, c1173, (p0.chains ++ ([t837] : List Int)), (by exact Kn.pick (ks := []) hk rfl), hs, f312, f1174, f900002, f900019, fg2, hc1175, H⟩
    have N1200 : ∀ (a_ : Act) (w_ : World), (∃ o1194 : Nat → Nat, ∃ A1195 : Option Addr, ∃ c1196 : Nat, Kn 38 a_ [(15, .pointer (some ⟨bp0, 0, none⟩)), (18, .pointer (some ((⟨bp0, 0, none⟩ : Addr).add 1))), (34, .slice A1195 (([t837] : List Int)).length c1196)] ∧ St [2, 3, 4] w oi w_ o1194 ∧ Ft (Own (encInt .i64) 3 (.slice A1195 (([t837] : List Int)).length c1196) ([t837] : List Int)) w_ o1194 58 ∧ NOwn (dRows ET49) 40 A309 c310 l311 w_ o1194 3 1 ∧ Ft (Own (encInt .i64) 3 (.slice (some ad833) (p0.chains).length cp0_1) p0.chains) w_ o1194 4 ∧ Ft (Own ET49 50 (.slice Ap0_2 (p0.begun).length cp0_2) p0.begun) w_ o1194 5 ∧ Ft (Bx bp0 76 [.slice A309 (l311).length c310, .slice (some ad833) (p0.chains).length cp0_1, .slice Ap0_2 (p0.begun).length cp0_2]) w_ o1194 2 ∧ Ft (RdC (encInt .u32) (some ⟨2, 0, none⟩) glob2) w_ o1194 0 ∧ (([t837] : List Int)).length ≤ c1196) → G 5 #[true, true, true, true, false, true, true, true, true, true, true, true, true, true, true, true, true, true, true, true, false, false, false, false] a_ w_ := by
      rintro a w1199 ⟨o1194, A1195, c1196, hk, hs, f1197, f312, f900001, f900002, f900019, fg2, hc1198⟩
      refine xd_of hG ?_
      refine xd_op hk (i := 4) (by kernel_rfl) rfl rfl ?_
      refine op_quiet tab hk (lv := [.slice (some ad833) (p0.chains).length cp0_1]) (v := .slice (some ad833) (p0.chains).length cp0_1) rfl ⟨(load1 tab rfl ((Bx.cell f900019.now 1).trans rfl)), trivial⟩ ?_
      have hk := hk.put 19 (.slice (some ad833) (p0.chains).length cp0_1) rfl
      refine ⟨.inr trivial, ?_⟩
      refine xd_op hk (i := 20) (by kernel_rfl) rfl rfl ?_
      refine op_append (o := o1194) (E := (encInt .i64)) (xs := p0.chains) (ys := ([t837] : List Int)) tab hk rfl rfl rfl rfl rfl rfl rfl f900001 (Own.rd f1197.now) q851 fun A1204 c1205 w1201 o1202 st1203 f1206 hc1207 => ?_
      replace f1197 := f1197.st st1203 (by decide)
      replace f312 := f312.st st1203 (by decide)
      replace f900002 := f900002.st st1203 (by decide)
      replace f900019 := f900019.st st1203 (by decide)
      replace fg2 := fg2.st st1203 (by decide)
      replace hs := hs.locQ st1203 hob rfl
      have hk := hk.put 35 (.slice A1204 ((p0.chains ++ ([t837] : List Int))).length c1205) rfl
      refine ⟨.inr trivial, ?_⟩
      refine xd_take tab hk (k := 1) (is := [21, 22]) (ls' := #[true, true, true, true, true, true, true, true, true, true, true, true, true, true, true, true, true, true, true, true, true, true, true, false]) (lv := []) (ks := [35, 37]) (e' := [(35, .slice A1204 ((p0.chains ++ ([t837] : List Int))).length c1205), (37, .pointer (some ((⟨bp0, 0, none⟩ : Addr).add 1)))]) (by kernel_rfl) rfl rfl (by kernel_rfl) (np_then np_body) trivial (fun W_ hS => trivial) fun a hk => ?_
      refine xd_op hk (i := 23) (by kernel_rfl) rfl rfl ?_
      refine op_store tab hk (t := 53) (v := .slice A1204 ((p0.chains ++ ([t837] : List Int))).length c1205) (b := bp0) (k := 1) (cs' := [.slice A309 (l311).length c310, .slice A1204 ((p0.chains ++ ([t837] : List Int))).length c1205, .slice Ap0_2 (p0.begun).length cp0_2]) rfl rfl rfl rfl rfl rfl f900019 rfl rfl fun w1208 o1209 st1210 f900019_ => ?_
      replace f1197 := f1197.st st1210 (by decide)
      replace f1206 := f1206.st st1210 (by decide)
      replace f312 := f312.st st1210 (by decide)
      replace f900002 := f900002.st st1210 (by decide)
      replace fg2 := fg2.st st1210 (by decide)
      replace hs := hs.locQ st1210 hob rfl
      replace f900019 := f900019_
      refine ⟨.inr trivial, ?_⟩
      refine xd_done (by kernel_rfl) ?_
      refine then_n ?_
      exact ⟨o1209, A1204, c1205, (p0.chains ++ ([t837] : List Int)), (by exact Kn.pick (ks := []) hk rfl), hs, f312, f1206, f900002, f900019, fg2, hc1207, H⟩
    have N1156 : ∀ (a_ : Act) (w_ : World), (∃ o1154 : Nat → Nat, Kn 38 a_ [(15, .pointer (some ⟨bp0, 0, none⟩)), (18, .pointer (some ((⟨bp0, 0, none⟩ : Addr).add 1))), (33, .int .i64 t837)] ∧ St [2, 3, 4] w oi w_ o1154 ∧ NOwn (dRows ET49) 40 A309 c310 l311 w_ o1154 3 1 ∧ Ft (Own (encInt .i64) 3 (.slice (some ad833) (p0.chains).length cp0_1) p0.chains) w_ o1154 4 ∧ Ft (Own ET49 50 (.slice Ap0_2 (p0.begun).length cp0_2) p0.begun) w_ o1154 5 ∧ Ft (Bx bp0 76 [.slice A309 (l311).length c310, .slice (some ad833) (p0.chains).length cp0_1, .slice Ap0_2 (p0.begun).length cp0_2]) w_ o1154 2 ∧ Ft (RdC (encInt .u32) (some ⟨2, 0, none⟩) glob2) w_ o1154 0) → G 6 #[true, true, true, true, false, true, true, true, true, true, true, true, true, true, true, true, true, true, true, false, false, false, false, false] a_ w_ := by
      rintro a w1155 ⟨o1154, hk, hs, f312, f900001, f900002, f900019, fg2⟩
      refine xd_of hG ?_
      refine xd_each [4, 19] (by kernel_rfl) rfl ⟨?_, ?_, trivial⟩
      · refine xd_one hk rfl rfl ?_
        refine op_quiet tab hk (lv := [.slice (some ad833) (p0.chains).length cp0_1]) (v := .slice (some ad833) (p0.chains).length cp0_1) rfl ⟨(load1 tab rfl ((Bx.cell f900019.now 1).trans rfl)), trivial⟩ ?_
        have hk := hk.put 19 (.slice (some ad833) (p0.chains).length cp0_1) rfl
        refine ⟨.inr trivial, ?_⟩
        exact xd_to hG rfl (N1162 _ _ ⟨o1154, (by exact Kn.pick (ks := [15, 19, 33]) hk rfl), hs, f312, f900001, f900002, f900019, fg2⟩)
      · refine xd_one hk rfl rfl ?_
        refine op_slice (o := o1154) tab hk (vs := [.int .i64 t837]) (cs := [.int .i64 t837]) rfl rfl rfl rfl rfl rfl rfl rfl rfl 57 fun bx1182 w1179 o1180 st1181 f1183 => ?_
        replace f312 := f312.st st1181 (by decide)
        replace f900001 := f900001.st st1181 (by decide)
        replace f900002 := f900002.st st1181 (by decide)
        replace f900019 := f900019.st st1181 (by decide)
        replace fg2 := fg2.st st1181 (by decide)
        replace hs := hs.locQ st1181 hob rfl
        have f1184 : Ft (Own (encInt .i64) 3 (.slice (some ⟨bx1182, 0, none⟩) (([t837] : List Int)).length 1) ([t837] : List Int)) w1179 o1180 57 := f1183.imp fun _ h_ => Own.of_box h_ rfl (by simp)
        have hk := hk.put 34 (.slice (some ⟨bx1182, 0, none⟩) (([t837] : List Int)).length 1) rfl
        refine ⟨.inr trivial, ?_⟩
        exact xd_to hG rfl (N1200 _ _ ⟨(fun b_ => (fun l_ => if l_ = 57 then 58 else l_) (o1180 b_)), (some ⟨bx1182, 0, none⟩), 1, (by exact Kn.pick (ks := [15, 18, 34]) hk rfl), (hs.relabM hob (fun l_ => if l_ = 57 then 58 else l_) (by decide)), (f1184.relab (fun l_ => if l_ = 57 then 58 else l_) rfl), (f312.relab (fun l_ => if l_ = 57 then 58 else l_) rfl), (f900001.relab (fun l_ => if l_ = 57 then 58 else l_) rfl), (f900002.relab (fun l_ => if l_ = 57 then 58 else l_) rfl), (f900019.relab (fun l_ => if l_ = 57 then 58 else l_) rfl), (fg2.relab (fun l_ => if l_ = 57 then 58 else l_) rfl), (Nat.le_refl _)⟩)
    have N1116 : ∀ (a_ : Act) (w_ : World), (∃ o1114 : Nat → Nat, Kn 38 a_ [(15, .pointer (some ⟨bp0, 0, none⟩)), (18, .pointer (some ((⟨bp0, 0, none⟩ : Addr).add 1))), (31, .int .i64 (rdD 0 p0.chains (IntKind.wrap .i64 (((p0.chains).length : Int) - 1)))), (32, .slice Ap1 (p1).length cp1)] ∧ St [2, 3, 4] w oi w_ o1114 ∧ NOwn (dRows ET49) 40 A309 c310 l311 w_ o1114 3 1 ∧ Ft (Own (encInt .i64) 3 (.slice (some ad833) (p0.chains).length cp0_1) p0.chains) w_ o1114 4 ∧ Ft (Own ET49 50 (.slice Ap0_2 (p0.begun).length cp0_2) p0.begun) w_ o1114 5 ∧ Ft (Bx bp0 76 [.slice A309 (l311).length c310, .slice (some ad833) (p0.chains).length cp0_1, .slice Ap0_2 (p0.begun).length cp0_2]) w_ o1114 2 ∧ Ft (RdC ET49 Ap1 p1) w_ o1114 5 ∧ Ft (RdC (encInt .u32) (some ⟨2, 0, none⟩) glob2) w_ o1114 0) → G 7 #[true, true, true, true, false, true, true, true, true, true, true, true, true, true, true, true, true, true, false, false, false, false, false, false] a_ w_ := by
      rintro a w1115 ⟨o1114, hk, hs, f312, f900001, f900002, f900019, f900020, fg2⟩
      refine xd_of hG ?_
      refine xd_each [4, 18] (by kernel_rfl) rfl ⟨?_, ?_, trivial⟩
      · refine xd_one hk rfl rfl ?_
        refine op_quiet tab hk (lv := [.slice (some ad833) (p0.chains).length cp0_1]) (v := .slice (some ad833) (p0.chains).length cp0_1) rfl ⟨(load1 tab rfl ((Bx.cell f900019.now 1).trans rfl)), trivial⟩ ?_
        have hk := hk.put 19 (.slice (some ad833) (p0.chains).length cp0_1) rfl
        refine ⟨.inr trivial, ?_⟩
        exact xd_to hG rfl (N1122 _ _ ⟨o1114, (by exact Kn.pick (ks := [15, 19, 31, 32]) hk rfl), hs, f312, f900001, f900002, f900019, f900020, fg2⟩)
      · refine xd_one hk rfl rfl ?_
        refine op_call hk ent_49 (vs := [.int .i64 (rdD 0 p0.chains (IntKind.wrap .i64 (((p0.chains).length : Int) - 1))), .slice Ap1 (p1).length cp1]) rfl (book_next_calls K (rdD 0 p0.chains (IntKind.wrap .i64 (((p0.chains).length : Int) - 1))) Ap1 cp1 p1 _ o1114 0 fg2 _ f900020 hcp1   _ hc838) ?_
        rintro _ w1148 ⟨o1149, rfl, st1150⟩
        replace f312 := f312.st st1150 (by decide)
        replace f900001 := f900001.st st1150 (by decide)
        replace f900002 := f900002.st st1150 (by decide)
        replace f900019 := f900019.st st1150 (by decide)
        replace f900020 := f900020.st st1150 (by decide)
        replace fg2 := fg2.st st1150 (by decide)
        replace hs := hs.locQ st1150 hob rfl
        have hk := hk.put 33 (.int .i64 t837) rfl
        refine ⟨.inr trivial, ?_⟩
        exact xd_to hG rfl (N1156 _ _ ⟨o1149, (by exact Kn.pick (ks := [15, 18, 33]) hk rfl), hs, f312, f900001, f900002, f900019, fg2⟩)
    have N1082 : ∀ (a_ : Act) (w_ : World), (∃ o1080 : Nat → Nat, Kn 38 a_ [(15, .pointer (some ⟨bp0, 0, none⟩)), (18, .pointer (some ((⟨bp0, 0, none⟩ : Addr).add 1))), (23, .slice (some ad833) (p0.chains).length cp0_1), (27, .slice (some ad833) (p0.chains).length cp0_1), (32, .slice Ap1 (p1).length cp1)] ∧ St [2, 3, 4] w oi w_ o1080 ∧ NOwn (dRows ET49) 40 A309 c310 l311 w_ o1080 3 1 ∧ Ft (Own (encInt .i64) 3 (.slice (some ad833) (p0.chains).length cp0_1) p0.chains) w_ o1080 4 ∧ Ft (Own ET49 50 (.slice Ap0_2 (p0.begun).length cp0_2) p0.begun) w_ o1080 5 ∧ Ft (Bx bp0 76 [.slice A309 (l311).length c310, .slice (some ad833) (p0.chains).length cp0_1, .slice Ap0_2 (p0.begun).length cp0_2]) w_ o1080 2 ∧ Ft (RdC ET49 Ap1 p1) w_ o1080 5 ∧ Ft (RdC (encInt .u32) (some ⟨2, 0, none⟩) glob2) w_ o1080 0) → G 11 #[true, true, true, true, false, true, true, true, true, true, true, true, true, false, false, false, false, true, false, false, false, false, false, false] a_ w_ := by
      rintro a w1081 ⟨o1080, hk, hs, f312, f900001, f900002, f900019, f900020, fg2⟩
      refine xd_of hG ?_
      refine xd_take tab hk (k := 8) (is := [13, 14, 15]) (ls' := #[true, true, true, true, false, true, true, true, true, true, true, true, true, true, true, true, false, true, false, false, false, false, false, false]) (lv := []) (ks := [15, 18, 30, 32]) (e' := [(15, .pointer (some ⟨bp0, 0, none⟩)), (18, .pointer (some ((⟨bp0, 0, none⟩ : Addr).add 1))), (30, .pointer (some (ad833.add (Int.toNat (IntKind.wrap .i64 (((p0.chains).length : Int) - 1)) * 1)))), (32, .slice Ap1 (p1).length cp1)]) (by kernel_rfl) rfl rfl (by kernel_rfl) (np_then np_body) trivial (fun W_ hS => ⟨q832, trivial⟩) fun a hk => ?_
      refine xd_each [4, 16] (by kernel_rfl) rfl ⟨?_, ?_, trivial⟩
      · refine xd_one hk rfl rfl ?_
        refine op_quiet tab hk (lv := [.slice (some ad833) (p0.chains).length cp0_1]) (v := .slice (some ad833) (p0.chains).length cp0_1) rfl ⟨(load1 tab rfl ((Bx.cell f900019.now 1).trans rfl)), trivial⟩ ?_
        have hk := hk.put 19 (.slice (some ad833) (p0.chains).length cp0_1) rfl
        refine ⟨.inr trivial, ?_⟩
        exact xd_to hG rfl (N1088 _ _ ⟨o1080, (by exact Kn.pick (ks := [15, 19, 30, 32]) hk rfl), hs, f312, f900001, f900002, f900019, f900020, fg2⟩)
      · refine xd_one hk rfl rfl ?_
        refine op_quiet tab hk (lv := [.int .i64 (rdD 0 p0.chains (IntKind.wrap .i64 (((p0.chains).length : Int) - 1)))]) (v := .int .i64 (rdD 0 p0.chains (IntKind.wrap .i64 (((p0.chains).length : Int) - 1)))) rfl ⟨(load1 tab rfl (RdC.at0 (E := (encInt .i64)) (d := 0) (i := (IntKind.wrap .i64 (((p0.chains).length : Int) - 1))) (Own.rd f900001.now) q832 rfl)), trivial⟩ ?_
        have hk := hk.put 31 (.int .i64 (rdD 0 p0.chains (IntKind.wrap .i64 (((p0.chains).length : Int) - 1)))) rfl
        refine ⟨.inr trivial, ?_⟩
        exact xd_to hG rfl (N1116 _ _ ⟨o1080, (by exact Kn.pick (ks := [15, 18, 31, 32]) hk rfl), hs, f312, f900001, f900002, f900019, f900020, fg2⟩)
    have N1076 : ∀ (a_ : Act) (w_ : World), (∃ o1074 : Nat → Nat, Kn 38 a_ [(15, .pointer (some ⟨bp0, 0, none⟩)), (18, .pointer (some ((⟨bp0, 0, none⟩ : Addr).add 1))), (23, .slice (some ad833) (p0.chains).length cp0_1), (26, .pointer (some ((⟨bp0, 0, none⟩ : Addr).add 1))), (32, .slice Ap1 (p1).length cp1)] ∧ St [2, 3, 4] w oi w_ o1074 ∧ NOwn (dRows ET49) 40 A309 c310 l311 w_ o1074 3 1 ∧ Ft (Own (encInt .i64) 3 (.slice (some ad833) (p0.chains).length cp0_1) p0.chains) w_ o1074 4 ∧ Ft (Own ET49 50 (.slice Ap0_2 (p0.begun).length cp0_2) p0.begun) w_ o1074 5 ∧ Ft (Bx bp0 76 [.slice A309 (l311).length c310, .slice (some ad833) (p0.chains).length cp0_1, .slice Ap0_2 (p0.begun).length cp0_2]) w_ o1074 2 ∧ Ft (RdC ET49 Ap1 p1) w_ o1074 5 ∧ Ft (RdC (encInt .u32) (some ⟨2, 0, none⟩) glob2) w_ o1074 0) → G 12 #[true, true, true, true, false, true, true, true, true, true, true, true, false, false, false, false, false, true, false, false, false, false, false, false] a_ w_ := by
      rintro a w1075 ⟨o1074, hk, hs, f312, f900001, f900002, f900019, f900020, fg2⟩
      refine xd_of hG ?_
      refine xd_each [4, 12] (by kernel_rfl) rfl ⟨?_, ?_, trivial⟩
      · refine xd_one hk rfl rfl ?_
        refine op_quiet tab hk (lv := [.slice (some ad833) (p0.chains).length cp0_1]) (v := .slice (some ad833) (p0.chains).length cp0_1) rfl ⟨(load1 tab rfl ((Bx.cell f900019.now 1).trans rfl)), trivial⟩ ?_
        have hk := hk.put 19 (.slice (some ad833) (p0.chains).length cp0_1) rfl
        refine ⟨.inr trivial, ?_⟩
        exact xd_to hG rfl (N1020 _ _ ⟨o1074, (by exact Kn.pick (ks := [15, 19, 23, 26, 32]) hk rfl), hs, f312, f900001, f900002, f900019, f900020, fg2⟩)
      · refine xd_one hk rfl rfl ?_
        refine op_quiet tab hk (lv := [.slice (some ad833) (p0.chains).length cp0_1]) (v := .slice (some ad833) (p0.chains).length cp0_1) rfl ⟨(load1 tab rfl ((Bx.cell f900019.now 1).trans rfl)), trivial⟩ ?_
        have hk := hk.put 27 (.slice (some ad833) (p0.chains).length cp0_1) rfl
        refine ⟨.inr trivial, ?_⟩
        exact xd_to hG rfl (N1082 _ _ ⟨o1074, (by exact Kn.pick (ks := [15, 18, 23, 27, 32]) hk rfl), hs, f312, f900001, f900002, f900019, f900020, fg2⟩)
    have N1222 : ∀ (a_ : Act) (w_ : World), (∃ o1220 : Nat → Nat, Kn 38 a_ [(15, .pointer (some ⟨bp0, 0, none⟩)), (19, .slice (some ad833) (p0.chains).length cp0_1), (22, .pointer (some ((⟨bp0, 0, none⟩ : Addr).add 1))), (29, .int .i64 (IntKind.wrap .i64 (((p0.chains).length : Int) - 1))), (32, .slice Ap1 (p1).length cp1)] ∧ St [2, 3, 4] w oi w_ o1220 ∧ NOwn (dRows ET49) 40 A309 c310 l311 w_ o1220 3 1 ∧ Ft (Own (encInt .i64) 3 (.slice (some ad833) (p0.chains).length cp0_1) p0.chains) w_ o1220 4 ∧ Ft (Own ET49 50 (.slice Ap0_2 (p0.begun).length cp0_2) p0.begun) w_ o1220 5 ∧ Ft (Bx bp0 76 [.slice A309 (l311).length c310, .slice (some ad833) (p0.chains).length cp0_1, .slice Ap0_2 (p0.begun).length cp0_2]) w_ o1220 2 ∧ Ft (RdC ET49 Ap1 p1) w_ o1220 5 ∧ Ft (RdC (encInt .u32) (some ⟨2, 0, none⟩) glob2) w_ o1220 0) → G 9 #[true, true, true, true, true, true, true, true, false, true, true, true, true, true, true, false, false, true, false, false, false, false, false, false] a_ w_ := by
      rintro a w1221 ⟨o1220, hk, hs, f312, f900001, f900002, f900019, f900020, fg2⟩
      refine xd_of hG ?_
      refine xd_op hk (i := 8) (by kernel_rfl) rfl rfl ?_
      refine op_quiet tab hk (lv := [.slice (some ad833) (p0.chains).length cp0_1]) (v := .slice (some ad833) (p0.chains).length cp0_1) rfl ⟨(load1 tab rfl ((Bx.cell f900019.now 1).trans rfl)), trivial⟩ ?_
      have hk := hk.put 23 (.slice (some ad833) (p0.chains).length cp0_1) rfl
      refine ⟨.inr trivial, ?_⟩
      refine xd_take tab hk (k := 7) (is := [15]) (ls' := #[true, true, true, true, true, true, true, true, true, true, true, true, true, true, true, true, false, true, false, false, false, false, false, false]) (lv := []) (ks := [15, 19, 30, 32]) (e' := [(15, .pointer (some ⟨bp0, 0, none⟩)), (19, .slice (some ad833) (p0.chains).length cp0_1), (30, .pointer (some (ad833.add (Int.toNat (IntKind.wrap .i64 (((p0.chains).length : Int) - 1)) * 1)))), (32, .slice Ap1 (p1).length cp1)]) (by kernel_rfl) rfl rfl (by kernel_rfl) (np_then np_body) trivial (fun W_ hS => ⟨q832, trivial⟩) fun a hk => ?_
      refine xd_op hk (i := 16) (by kernel_rfl) rfl rfl ?_
      refine op_quiet tab hk (lv := [.int .i64 (rdD 0 p0.chains (IntKind.wrap .i64 (((p0.chains).length : Int) - 1)))]) (v := .int .i64 (rdD 0 p0.chains (IntKind.wrap .i64 (((p0.chains).length : Int) - 1)))) rfl ⟨(load1 tab rfl (RdC.at0 (E := (encInt .i64)) (d := 0) (i := (IntKind.wrap .i64 (((p0.chains).length : Int) - 1))) (Own.rd f900001.now) q832 rfl)), trivial⟩ ?_
      have hk := hk.put 31 (.int .i64 (rdD 0 p0.chains (IntKind.wrap .i64 (((p0.chains).length : Int) - 1)))) rfl
      refine ⟨.inr trivial, ?_⟩
      refine xd_op hk (i := 18) (by kernel_rfl) rfl rfl ?_
      refine op_call hk ent_49 (vs := [.int .i64 (rdD 0 p0.chains (IntKind.wrap .i64 (((p0.chains).length : Int) - 1))), .slice Ap1 (p1).length cp1]) rfl (book_next_calls K (rdD 0 p0.chains (IntKind.wrap .i64 (((p0.chains).length : Int) - 1))) Ap1 cp1 p1 _ o1220 0 fg2 _ f900020 hcp1   _ hc838) ?_
      rintro _ w1226 ⟨o1227, rfl, st1228⟩
      replace f312 := f312.st st1228 (by decide)
      replace f900001 := f900001.st st1228 (by decide)
      replace f900002 := f900002.st st1228 (by decide)
      replace f900019 := f900019.st st1228 (by decide)
      replace f900020 := f900020.st st1228 (by decide)
      replace fg2 := fg2.st st1228 (by decide)
      replace hs := hs.locQ st1228 hob rfl
      have hk := hk.put 33 (.int .i64 t837) rfl
      refine ⟨.inr trivial, ?_⟩
      refine xd_op hk (i := 19) (by kernel_rfl) rfl rfl ?_
      refine op_slice (o := o1227) tab hk (vs := [.int .i64 t837]) (cs := [.int .i64 t837]) rfl rfl rfl rfl rfl rfl rfl rfl rfl 59 fun bx1232 w1229 o1230 st1231 f1233 => ?_
      replace f312 := f312.st st1231 (by decide)
      replace f900001 := f900001.st st1231 (by decide)
      replace f900002 := f900002.st st1231 (by decide)
      replace f900019 := f900019.st st1231 (by decide)
      replace f900020 := f900020.st st1231 (by decide)
      replace fg2 := fg2.st st1231 (by decide)
      replace hs := hs.locQ st1231 hob rfl
      have f1234 : Ft (Own (encInt .i64) 3 (.slice (some ⟨bx1232, 0, none⟩) (([t837] : List Int)).length 1) ([t837] : List Int)) w1229 o1230 59 := f1233.imp fun _ h_ => Own.of_box h_ rfl (by simp)
      have hk := hk.put 34 (.slice (some ⟨bx1232, 0, none⟩) (([t837] : List Int)).length 1) rfl
      refine ⟨.inr trivial, ?_⟩
      refine xd_op hk (i := 20) (by kernel_rfl) rfl rfl ?_
      refine op_append (o := o1230) (E := (encInt .i64)) (xs := p0.chains) (ys := ([t837] : List Int)) tab hk rfl rfl rfl rfl rfl rfl rfl f900001 (Own.rd f1234.now) q851 fun A1238 c1239 w1235 o1236 st1237 f1240 hc1241 => ?_
      replace f1234 := f1234.st st1237 (by decide)
      replace f312 := f312.st st1237 (by decide)
      replace f900002 := f900002.st st1237 (by decide)
      replace f900019 := f900019.st st1237 (by decide)
      replace f900020 := f900020.st st1237 (by decide)
      replace fg2 := fg2.st st1237 (by decide)
      replace hs := hs.locQ st1237 hob rfl
      have hk := hk.put 35 (.slice A1238 ((p0.chains ++ ([t837] : List Int))).length c1239) rfl
      refine ⟨.inr trivial, ?_⟩
      refine xd_take tab hk (k := 1) (is := [21, 22]) (ls' := #[true, true, true, true, true, true, true, true, true, true, true, true, true, true, true, true, true, true, true, true, true, true, true, false]) (lv := []) (ks := [35, 37]) (e' := [(35, .slice A1238 ((p0.chains ++ ([t837] : List Int))).length c1239), (37, .pointer (some ((⟨bp0, 0, none⟩ : Addr).add 1)))]) (by kernel_rfl) rfl rfl (by kernel_rfl) (np_then np_body) trivial (fun W_ hS => trivial) fun a hk => ?_
      refine xd_op hk (i := 23) (by kernel_rfl) rfl rfl ?_
      refine op_store tab hk (t := 53) (v := .slice A1238 ((p0.chains ++ ([t837] : List Int))).length c1239) (b := bp0) (k := 1) (cs' := [.slice A309 (l311).length c310, .slice A1238 ((p0.chains ++ ([t837] : List Int))).length c1239, .slice Ap0_2 (p0.begun).length cp0_2]) rfl rfl rfl rfl rfl rfl f900019 rfl rfl fun w1242 o1243 st1244 f900019_ => ?_
      replace f1234 := f1234.st st1244 (by decide)
      replace f1240 := f1240.st st1244 (by decide)
      replace f312 := f312.st st1244 (by decide)
      replace f900002 := f900002.st st1244 (by decide)
      replace f900020 := f900020.st st1244 (by decide)
      replace fg2 := fg2.st st1244 (by decide)
      replace hs := hs.locQ st1244 hob rfl
      replace f900019 := f900019_
      refine ⟨.inr trivial, ?_⟩
      refine xd_done (by kernel_rfl) ?_
      refine then_n ?_
      exact ⟨o1243, A1238, c1239, (p0.chains ++ ([t837] : List Int)), (by exact Kn.pick (ks := []) hk rfl), hs, f312, f1240, f900002, f900019, fg2, hc1241, H⟩
    have N1250 : ∀ (a_ : Act) (w_ : World), (∃ o1248 : Nat → Nat, Kn 38 a_ [(15, .pointer (some ⟨bp0, 0, none⟩)), (18, .pointer (some ((⟨bp0, 0, none⟩ : Addr).add 1))), (23, .slice (some ad833) (p0.chains).length cp0_1), (29, .int .i64 (IntKind.wrap .i64 (((p0.chains).length : Int) - 1))), (32, .slice Ap1 (p1).length cp1)] ∧ St [2, 3, 4] w oi w_ o1248 ∧ NOwn (dRows ET49) 40 A309 c310 l311 w_ o1248 3 1 ∧ Ft (Own (encInt .i64) 3 (.slice (some ad833) (p0.chains).length cp0_1) p0.chains) w_ o1248 4 ∧ Ft (Own ET49 50 (.slice Ap0_2 (p0.begun).length cp0_2) p0.begun) w_ o1248 5 ∧ Ft (Bx bp0 76 [.slice A309 (l311).length c310, .slice (some ad833) (p0.chains).length cp0_1, .slice Ap0_2 (p0.begun).length cp0_2]) w_ o1248 2 ∧ Ft (RdC ET49 Ap1 p1) w_ o1248 5 ∧ Ft (RdC (encInt .u32) (some ⟨2, 0, none⟩) glob2) w_ o1248 0) → G 9 #[true, true, true, true, false, true, true, true, true, true, true, true, true, true, true, false, false, true, false, false, false, false, false, false] a_ w_ := by
      rintro a w1249 ⟨o1248, hk, hs, f312, f900001, f900002, f900019, f900020, fg2⟩
      refine xd_of hG ?_
      refine xd_take tab hk (k := 8) (is := [15]) (ls' := #[true, true, true, true, false, true, true, true, true, true, true, true, true, true, true, true, false, true, false, false, false, false, false, false]) (lv := []) (ks := [15, 18, 30, 32]) (e' := [(15, .pointer (some ⟨bp0, 0, none⟩)), (18, .pointer (some ((⟨bp0, 0, none⟩ : Addr).add 1))), (30, .pointer (some (ad833.add (Int.toNat (IntKind.wrap .i64 (((p0.chains).length : Int) - 1)) * 1)))), (32, .slice Ap1 (p1).length cp1)]) (by kernel_rfl) rfl rfl (by kernel_rfl) (np_then np_body) trivial (fun W_ hS => ⟨q832, trivial⟩) fun a hk => ?_
      refine xd_each [4, 16] (by kernel_rfl) rfl ⟨?_, ?_, trivial⟩
      · refine xd_one hk rfl rfl ?_
        refine op_quiet tab hk (lv := [.slice (some ad833) (p0.chains).length cp0_1]) (v := .slice (some ad833) (p0.chains).length cp0_1) rfl ⟨(load1 tab rfl ((Bx.cell f900019.now 1).trans rfl)), trivial⟩ ?_
        have hk := hk.put 19 (.slice (some ad833) (p0.chains).length cp0_1) rfl
        refine ⟨.inr trivial, ?_⟩
        exact xd_to hG rfl (N1088 _ _ ⟨o1248, (by exact Kn.pick (ks := [15, 19, 30, 32]) hk rfl), hs, f312, f900001, f900002, f900019, f900020, fg2⟩)
      · refine xd_one hk rfl rfl ?_
        refine op_quiet tab hk (lv := [.int .i64 (rdD 0 p0.chains (IntKind.wrap .i64 (((p0.chains).length : Int) - 1)))]) (v := .int .i64 (rdD 0 p0.chains (IntKind.wrap .i64 (((p0.chains).length : Int) - 1)))) rfl ⟨(load1 tab rfl (RdC.at0 (E := (encInt .i64)) (d := 0) (i := (IntKind.wrap .i64 (((p0.chains).length : Int) - 1))) (Own.rd f900001.now) q832 rfl)), trivial⟩ ?_
        have hk := hk.put 31 (.int .i64 (rdD 0 p0.chains (IntKind.wrap .i64 (((p0.chains).length : Int) - 1)))) rfl
        refine ⟨.inr trivial, ?_⟩
        exact xd_to hG rfl (N1116 _ _ ⟨o1248, (by exact Kn.pick (ks := [15, 18, 31, 32]) hk rfl), hs, f312, f900001, f900002, f900019, f900020, fg2⟩)
    have N1216 : ∀ (a_ : Act) (w_ : World), (∃ o1214 : Nat → Nat, Kn 38 a_ [(15, .pointer (some ⟨bp0, 0, none⟩)), (18, .pointer (some ((⟨bp0, 0, none⟩ : Addr).add 1))), (22, .pointer (some ((⟨bp0, 0, none⟩ : Addr).add 1))), (27, .slice (some ad833) (p0.chains).length cp0_1), (32, .slice Ap1 (p1).length cp1)] ∧ St [2, 3, 4] w oi w_ o1214 ∧ NOwn (dRows ET49) 40 A309 c310 l311 w_ o1214 3 1 ∧ Ft (Own (encInt .i64) 3 (.slice (some ad833) (p0.chains).length cp0_1) p0.chains) w_ o1214 4 ∧ Ft (Own ET49 50 (.slice Ap0_2 (p0.begun).length cp0_2) p0.begun) w_ o1214 5 ∧ Ft (Bx bp0 76 [.slice A309 (l311).length c310, .slice (some ad833) (p0.chains).length cp0_1, .slice Ap0_2 (p0.begun).length cp0_2]) w_ o1214 2 ∧ Ft (RdC ET49 Ap1 p1) w_ o1214 5 ∧ Ft (RdC (encInt .u32) (some ⟨2, 0, none⟩) glob2) w_ o1214 0) → G 12 #[true, true, true, true, false, true, true, true, false, true, true, true, true, false, false, false, false, true, false, false, false, false, false, false] a_ w_ := by
      rintro a w1215 ⟨o1214, hk, hs, f312, f900001, f900002, f900019, f900020, fg2⟩
      refine xd_of hG ?_
      refine xd_take tab hk (k := 10) (is := [13, 14]) (ls' := #[true, true, true, true, false, true, true, true, false, true, true, true, true, true, true, false, false, true, false, false, false, false, false, false]) (lv := []) (ks := [15, 18, 22, 29, 32]) (e' := [(15, .pointer (some ⟨bp0, 0, none⟩)), (18, .pointer (some ((⟨bp0, 0, none⟩ : Addr).add 1))), (22, .pointer (some ((⟨bp0, 0, none⟩ : Addr).add 1))), (29, .int .i64 (IntKind.wrap .i64 (((p0.chains).length : Int) - 1))), (32, .slice Ap1 (p1).length cp1)]) (by kernel_rfl) rfl rfl (by kernel_rfl) (np_then np_body) trivial (fun W_ hS => trivial) fun a hk => ?_
      refine xd_each [4, 8] (by kernel_rfl) rfl ⟨?_, ?_, trivial⟩
      · refine xd_one hk rfl rfl ?_
        refine op_quiet tab hk (lv := [.slice (some ad833) (p0.chains).length cp0_1]) (v := .slice (some ad833) (p0.chains).length cp0_1) rfl ⟨(load1 tab rfl ((Bx.cell f900019.now 1).trans rfl)), trivial⟩ ?_
        have hk := hk.put 19 (.slice (some ad833) (p0.chains).length cp0_1) rfl
        refine ⟨.inr trivial, ?_⟩
        exact xd_to hG rfl (N1222 _ _ ⟨o1214, (by exact Kn.pick (ks := [15, 19, 22, 29, 32]) hk rfl), hs, f312, f900001, f900002, f900019, f900020, fg2⟩)
      · refine xd_one hk rfl rfl ?_
        refine op_quiet tab hk (lv := [.slice (some ad833) (p0.chains).length cp0_1]) (v := .slice (some ad833) (p0.chains).length cp0_1) rfl ⟨(load1 tab rfl ((Bx.cell f900019.now 1).trans rfl)), trivial⟩ ?_
        have hk := hk.put 23 (.slice (some ad833) (p0.chains).length cp0_1) rfl
        refine ⟨.inr trivial, ?_⟩
        exact xd_to hG rfl (N1250 _ _ ⟨o1214, (by exact Kn.pick (ks := [15, 18, 23, 29, 32]) hk rfl), hs, f312, f900001, f900002, f900019, f900020, fg2⟩)
    refine xd_of hG ?_
    refine xd_take tab hk (k := 13) (is := [0, 1, 2, 3, 5, 6, 7, 9, 10, 11, 17]) (ls' := #[true, true, true, true, false, true, true, true, false, true, true, true, false, false, false, false, false, true, false, false, false, false, false, false]) (lv := []) (ks := [15, 18, 22, 26, 32]) (e' := [(15, .pointer (some ⟨bp0, 0, none⟩)), (18, .pointer (some ((⟨bp0, 0, none⟩ : Addr).add 1))), (22, .pointer (some ((⟨bp0, 0, none⟩ : Addr).add 1))), (26, .pointer (some ((⟨bp0, 0, none⟩ : Addr).add 1))), (32, .slice Ap1 (p1).length cp1)]) (by kernel_rfl) rfl rfl (by kernel_rfl) (np_then np_body) trivial (fun W_ hS => trivial) fun a hk => ?_
    refine xd_each [4, 8, 12] (by kernel_rfl) rfl ⟨?_, ?_, ?_, trivial⟩
    · refine xd_one hk rfl rfl ?_
      refine op_quiet tab hk (lv := [.slice (some ad833) (p0.chains).length cp0_1]) (v := .slice (some ad833) (p0.chains).length cp0_1) rfl ⟨(load1 tab rfl ((Bx.cell f900019.now 1).trans rfl)), trivial⟩ ?_
      have hk := hk.put 19 (.slice (some ad833) (p0.chains).length cp0_1) rfl
      refine ⟨.inr trivial, ?_⟩
      exact xd_to hG rfl (N1014 _ _ ⟨o308, (by exact Kn.pick (ks := [15, 19, 22, 26, 32]) hk rfl), hs, f312, f900001, f900002, f900019, f900020, fg2⟩)
    · refine xd_one hk rfl rfl ?_
      refine op_quiet tab hk (lv := [.slice (some ad833) (p0.chains).length cp0_1]) (v := .slice (some ad833) (p0.chains).length cp0_1) rfl ⟨(load1 tab rfl ((Bx.cell f900019.now 1).trans rfl)), trivial⟩ ?_
      have hk := hk.put 23 (.slice (some ad833) (p0.chains).length cp0_1) rfl
      refine ⟨.inr trivial, ?_⟩
      exact xd_to hG rfl (N1076 _ _ ⟨o308, (by exact Kn.pick (ks := [15, 18, 23, 26, 32]) hk rfl), hs, f312, f900001, f900002, f900019, f900020, fg2⟩)
    · refine xd_one hk rfl rfl ?_
      refine op_quiet tab hk (lv := [.slice (some ad833) (p0.chains).length cp0_1]) (v := .slice (some ad833) (p0.chains).length cp0_1) rfl ⟨(load1 tab rfl ((Bx.cell f900019.now 1).trans rfl)), trivial⟩ ?_
      have hk := hk.put 27 (.slice (some ad833) (p0.chains).length cp0_1) rfl
      refine ⟨.inr trivial, ?_⟩
      exact xd_to hG rfl (N1216 _ _ ⟨o308, (by exact Kn.pick (ks := [15, 18, 22, 27, 32]) hk rfl), hs, f312, f900001, f900002, f900019, f900020, fg2⟩)
  obtain ⟨t1285, hc1286, H⟩ := bindS H
  obtain ⟨q1305, H⟩ := ifS H
  refine xd_begin (o := oi) (fun W_ => True) mixed rfl rfl fun w1387 st1388 => ?_
  replace f900000 := f900000.st st1388 (by decide)
  replace f900001 := f900001.st st1388 (by decide)
  replace f900002 := f900002.st st1388 (by decide)
  replace f900019 := f900019.st st1388 (by decide)
  replace f900020 := f900020.st st1388 (by decide)
  replace fg2 := fg2.st st1388 (by decide)
  replace hs := hs.locQ st1388 hob rfl
  refine xd_abs fun G hG => ?_
  have N1394 : ∀ (a_ : Act) (w_ : World), (∃ o1392 : Nat → Nat, Kn 38 a_ [(0, .pointer (some ⟨bp0, 0, none⟩)), (1, .slice Ap1 (p1).length cp1), (4, .pointer (some ⟨bp0, 0, none⟩)), (8, .slice Ap0_0 (p0.l).length cp0_0), (9, .slice Ap1 (p1).length cp1)] ∧ St [2, 3, 4] w oi w_ o1392 ∧ NOwn (dRows ET49) 40 Ap0_0 cp0_0 p0.l w_ o1392 3 1 ∧ Ft (Own (encInt .i64) 3 (.slice Ap0_1 (p0.chains).length cp0_1) p0.chains) w_ o1392 4 ∧ Ft (Own ET49 50 (.slice Ap0_2 (p0.begun).length cp0_2) p0.begun) w_ o1392 5 ∧ Ft (Bx bp0 76 [.slice Ap0_0 (p0.l).length cp0_0, .slice Ap0_1 (p0.chains).length cp0_1, .slice Ap0_2 (p0.begun).length cp0_2]) w_ o1392 2 ∧ Ft (RdC ET49 Ap1 p1) w_ o1392 5 ∧ Ft (RdC (encInt .u32) (some ⟨2, 0, none⟩) glob2) w_ o1392 0) → G 6 #[true, true, true, true, true, true, false, false, false, false, false, false] a_ w_ := by
    rintro a w1393 ⟨o1392, hk, hs, f900000, f900001, f900002, f900019, f900020, fg2⟩
    refine xd_of hG ?_
    refine xd_op hk (i := 6) (by kernel_rfl) rfl rfl ?_
    refine op_call hk ent_36 (vs := [.slice Ap1 (p1).length cp1]) rfl (slices_Clone'_calls Ap1 cp1 p1 _ o1392 _ f900020 hcp1 69  _ hc1286) ?_
    rintro _ w1398 ⟨o1399, A1401, c1402, rfl, st1400, f1403, hc1404⟩
    replace f900000 := f900000.st st1400 (by decide)
    replace f900001 := f900001.st st1400 (by decide)
    replace f900002 := f900002.st st1400 (by decide)
    replace f900019 := f900019.st st1400 (by decide)
    replace f900020 := f900020.st st1400 (by decide)
    replace fg2 := fg2.st st1400 (by decide)
    replace hs := hs.locQ st1400 hob rfl
    have hk := hk.put 10 (.slice A1401 (t1285).length c1402) rfl
    refine ⟨.inr trivial, ?_⟩
    refine xd_op hk (i := 7) (by kernel_rfl) rfl rfl ?_
    obtain ⟨o1408, hR1409⟩ := relab_ex o1399 (fun l_ => if l_ = 69 then 1 else l_)
    replace hs : St [2, 3, 4] w oi w1398 o1408 := by rw [hR1409]; exact (hs.relabM hob (fun l_ => if l_ = 69 then 1 else l_) (by decide))
    replace f1403 : Ft (Own ET49 50 (.slice A1401 (t1285).length c1402) t1285) w1398 o1408 1 := by rw [hR1409]; exact f1403.relab (fun l_ => if l_ = 69 then 1 else l_) rfl
    replace f900000 : NOwn (dRows ET49) 40 Ap0_0 cp0_0 p0.l w1398 o1408 3 1 := by rw [hR1409]; exact f900000.relab (fun l_ => if l_ = 69 then 1 else l_) rfl
    replace f900001 : Ft (Own (encInt .i64) 3 (.slice Ap0_1 (p0.chains).length cp0_1) p0.chains) w1398 o1408 4 := by rw [hR1409]; exact f900001.relab (fun l_ => if l_ = 69 then 1 else l_) rfl
    replace f900002 : Ft (Own ET49 50 (.slice Ap0_2 (p0.begun).length cp0_2) p0.begun) w1398 o1408 5 := by rw [hR1409]; exact f900002.relab (fun l_ => if l_ = 69 then 1 else l_) rfl
    replace f900019 : Ft (Bx bp0 76 [.slice Ap0_0 (p0.l).length cp0_0, .slice Ap0_1 (p0.chains).length cp0_1, .slice Ap0_2 (p0.begun).length cp0_2]) w1398 o1408 2 := by rw [hR1409]; exact f900019.relab (fun l_ => if l_ = 69 then 1 else l_) rfl
    replace f900020 : Ft (RdC ET49 Ap1 p1) w1398 o1408 5 := by rw [hR1409]; exact f900020.relab (fun l_ => if l_ = 69 then 1 else l_) rfl
    replace fg2 : Ft (RdC (encInt .u32) (some ⟨2, 0, none⟩) glob2) w1398 o1408 0 := by rw [hR1409]; exact fg2.relab (fun l_ => if l_ = 69 then 1 else l_) rfl
    refine op_slice (o := o1408) tab hk (vs := [.slice A1401 (t1285).length c1402]) (cs := [.slice A1401 (t1285).length c1402]) rfl rfl rfl rfl rfl rfl rfl rfl rfl 70 fun bx1410 w1405 o1406 st1407 f1411 => ?_
    replace f1403 := f1403.st st1407 (by decide)
    replace f900000 := f900000.st st1407 (by decide)
    replace f900001 := f900001.st st1407 (by decide)
    replace f900002 := f900002.st st1407 (by decide)
    replace f900019 := f900019.st st1407 (by decide)
    replace f900020 := f900020.st st1407 (by decide)
    replace fg2 := fg2.st st1407 (by decide)
    replace hs := hs.locQ st1407 hob rfl
    have f1412 : NOwn (dRows ET49) 40 (some ⟨bx1410, 0, none⟩) 1 ([t1285] : List (List T49)) w1405 o1406 70 1 := NOwn.lit f1411 [⟨A1401, c1402, t1285⟩] rfl (Inn.consF (f1403.imp fun _ h_ => Own.rd h_) hc1404 (Inn.nilF _ _ _ _)) rfl (Nat.le_of_ble_eq_true rfl)
    have hk := hk.put 11 (.slice (some ⟨bx1410, 0, none⟩) (([t1285] : List (List T49))).length 1) rfl
    refine ⟨.inr trivial, ?_⟩
    refine xd_op hk (i := 8) (by kernel_rfl) rfl rfl ?_
    refine op_appendN (o := o1406) (D := (dRows ET49)) (xs := p0.l) (ys := ([t1285] : List (List T49))) tab hk rfl rfl rfl rfl rfl rfl rfl f900000 f1412.rd (by decide) q1305 fun A1416 c1417 w1413 o1414 st1415 f1418 hc1419 => ?_
    replace f1403 := f1403.st st1415 (by decide)
    replace f1412 := f1412.st st1415 (by decide)
    replace f900001 := f900001.st st1415 (by decide)
    replace f900002 := f900002.st st1415 (by decide)
    replace f900019 := f900019.st st1415 (by decide)
    replace f900020 := f900020.st st1415 (by decide)
    replace fg2 := fg2.st st1415 (by decide)
    replace hs := hs.locQ st1415 hob rfl
    have hk := hk.put 12 (.slice A1416 ((p0.l ++ ([t1285] : List (List T49)))).length c1417) rfl
    refine ⟨.inr trivial, ?_⟩
    refine xd_take tab hk (k := 1) (is := [9, 10]) (ls' := #[true, true, true, true, true, true, true, true, true, true, true, false]) (lv := []) (ks := [0, 1, 12, 14]) (e' := [(0, .pointer (some ⟨bp0, 0, none⟩)), (1, .slice Ap1 (p1).length cp1), (12, .slice A1416 ((p0.l ++ ([t1285] : List (List T49)))).length c1417), (14, .pointer (some ⟨bp0, 0, none⟩))]) (by kernel_rfl) rfl rfl (by kernel_rfl) (np_then (np_then np_body)) trivial (fun W_ hS => trivial) fun a hk => ?_
    refine xd_op hk (i := 11) (by kernel_rfl) rfl rfl ?_
    refine op_store tab hk (t := 74) (v := .slice A1416 ((p0.l ++ ([t1285] : List (List T49)))).length c1417) (b := bp0) (k := 0) (cs' := [.slice A1416 ((p0.l ++ ([t1285] : List (List T49)))).length c1417, .slice Ap0_1 (p0.chains).length cp0_1, .slice Ap0_2 (p0.begun).length cp0_2]) rfl rfl rfl rfl rfl rfl f900019 rfl rfl fun w1420 o1421 st1422 f900019_ => ?_
    replace f1403 := f1403.st st1422 (by decide)
    replace f1412 := f1412.st st1422 (by decide)
    replace f1418 := f1418.st st1422 (by decide)
    replace f900001 := f900001.st st1422 (by decide)
    replace f900002 := f900002.st st1422 (by decide)
    replace f900020 := f900020.st st1422 (by decide)
    replace fg2 := fg2.st st1422 (by decide)
    replace hs := hs.locQ st1422 hob rfl
    replace f900019 := f900019_
    refine ⟨.inr trivial, ?_⟩
    refine xd_done (by kernel_rfl) ?_
    refine then_n ?_
    exact ⟨o1421, A1416, c1417, (p0.l ++ ([t1285] : List (List T49))), (by exact Kn.pick (ks := [0, 1]) hk rfl), hs, f1418, f900001, f900002, f900019, f900020, fg2, hc1419, H⟩
  have N1464 : ∀ (a_ : Act) (w_ : World), (∃ o1458 : Nat → Nat, ∃ A1459 : Option Addr, ∃ c1460 : Nat, Kn 38 a_ [(0, .pointer (some ⟨bp0, 0, none⟩)), (1, .slice Ap1 (p1).length cp1), (4, .pointer (some ⟨bp0, 0, none⟩)), (8, .slice Ap0_0 (p0.l).length cp0_0), (10, .slice A1459 (t1285).length c1460)] ∧ St [2, 3, 4] w oi w_ o1458 ∧ Ft (Own ET49 50 (.slice A1459 (t1285).length c1460) t1285) w_ o1458 73 ∧ NOwn (dRows ET49) 40 Ap0_0 cp0_0 p0.l w_ o1458 3 1 ∧ Ft (Own (encInt .i64) 3 (.slice Ap0_1 (p0.chains).length cp0_1) p0.chains) w_ o1458 4 ∧ Ft (Own ET49 50 (.slice Ap0_2 (p0.begun).length cp0_2) p0.begun) w_ o1458 5 ∧ Ft (Bx bp0 76 [.slice Ap0_0 (p0.l).length cp0_0, .slice Ap0_1 (p0.chains).length cp0_1, .slice Ap0_2 (p0.begun).length cp0_2]) w_ o1458 2 ∧ Ft (RdC ET49 Ap1 p1) w_ o1458 5 ∧ Ft (RdC (encInt .u32) (some ⟨2, 0, none⟩) glob2) w_ o1458 0 ∧ (t1285).length ≤ c1460) → G 5 #[true, true, true, true, true, true, true, false, false, false, false, false] a_ w_ := by
    rintro a w1463 ⟨o1458, A1459, c1460, hk, hs, f1461, f900000, f900001, f900002, f900019, f900020, fg2, hc1462⟩
    refine xd_of hG ?_
    refine xd_op hk (i := 7) (by kernel_rfl) rfl rfl ?_
    obtain ⟨o1468, hR1469⟩ := relab_ex o1458 (fun l_ => if l_ = 73 then 1 else l_)
    replace hs : St [2, 3, 4] w oi w1463 o1468 := by rw [hR1469]; exact (hs.relabM hob (fun l_ => if l_ = 73 then 1 else l_) (by decide))
    replace f1461 : Ft (Own ET49 50 (.slice A1459 (t1285).length c1460) t1285) w1463 o1468 1 := by rw [hR1469]; exact f1461.relab (fun l_ => if l_ = 73 then 1 else l_) rfl
    replace f900000 : NOwn (dRows ET49) 40 Ap0_0 cp0_0 p0.l w1463 o1468 3 1 := by rw [hR1469]; exact f900000.relab (fun l_ => if l_ = 73 then 1 else l_) rfl
    replace f900001 : Ft (Own (encInt .i64) 3 (.slice Ap0_1 (p0.chains).length cp0_1) p0.chains) w1463 o1468 4 := by rw [hR1469]; exact f900001.relab (fun l_ => if l_ = 73 then 1 else l_) rfl
    replace f900002 : Ft (Own ET49 50 (.slice Ap0_2 (p0.begun).length cp0_2) p0.begun) w1463 o1468 5 := by rw [hR1469]; exact f900002.relab (fun l_ => if l_ = 73 then 1 else l_) rfl
    replace f900019 : Ft (Bx bp0 76 [.slice Ap0_0 (p0.l).length cp0_0, .slice Ap0_1 (p0.chains).length cp0_1, .slice Ap0_2 (p0.begun).length cp0_2]) w1463 o1468 2 := by rw [hR1469]; exact f900019.relab (fun l_ => if l_ = 73 then 1 else l_) rfl
    replace f900020 : Ft (RdC ET49 Ap1 p1) w1463 o1468 5 := by rw [hR1469]; exact f900020.relab (fun l_ => if l_ = 73 then 1 else l_) rfl
    replace fg2 : Ft (RdC (encInt .u32) (some ⟨2, 0, none⟩) glob2) w1463 o1468 0 := by rw [hR1469]; exact fg2.relab (fun l_ => if l_ = 73 then 1 else l_) rfl
    refine op_slice (o := o1468) tab hk (vs := [.slice A1459 (t1285).length c1460]) (cs := [.slice A1459 (t1285).length c1460]) rfl rfl rfl rfl rfl rfl rfl rfl rfl 74 fun bx1470 w1465 o1466 st1467 f1471 => ?_
    replace f1461 := f1461.st st1467 (by decide)
    replace f900000 := f900000.st st1467 (by decide)
    replace f900001 := f900001.st st1467 (by decide)
    replace f900002 := f900002.st st1467 (by decide)
    replace f900019 := f900019.st st1467 (by decide)
    replace f900020 := f900020.st st1467 (by decide)
    replace fg2 := fg2.st st1467 (by decide)
    replace hs := hs.locQ st1467 hob rfl
    have f1472 : NOwn (dRows ET49) 40 (some ⟨bx1470, 0, none⟩) 1 ([t1285] : List (List T49)) w1465 o1466 74 1 := NOwn.lit f1471 [⟨A1459, c1460, t1285⟩] rfl (Inn.consF (f1461.imp fun _ h_ => Own.rd h_) hc1462 (Inn.nilF _ _ _ _)) rfl (Nat.le_of_ble_eq_true rfl)
    have hk := hk.put 11 (.slice (some ⟨bx1470, 0, none⟩) (([t1285] : List (List T49))).length 1) rfl
    refine ⟨.inr trivial, ?_⟩
    refine xd_op hk (i := 8) (by kernel_rfl) rfl rfl ?_
    refine op_appendN (o := o1466) (D := (dRows ET49)) (xs := p0.l) (ys := ([t1285] : List (List T49))) tab hk rfl rfl rfl rfl rfl rfl rfl f900000 f1472.rd (by decide) q1305 fun A1476 c1477 w1473 o1474 st1475 f1478 hc1479 => ?_
    replace f1461 := f1461.st st1475 (by decide)
    replace f1472 := f1472.st st1475 (by decide)
    replace f900001 := f900001.st st1475 (by decide)
    replace f900002 := f900002.st st1475 (by decide)
    replace f900019 := f900019.st st1475 (by decide)
    replace f900020 := f900020.st st1475 (by decide)
    replace fg2 := fg2.st st1475 (by decide)
    replace hs := hs.locQ st1475 hob rfl
    have hk := hk.put 12 (.slice A1476 ((p0.l ++ ([t1285] : List (List T49)))).length c1477) rfl
    refine ⟨.inr trivial, ?_⟩
    refine xd_take tab hk (k := 1) (is := [9, 10]) (ls' := #[true, true, true, true, true, true, true, true, true, true, true, false]) (lv := []) (ks := [0, 1, 12, 14]) (e' := [(0, .pointer (some ⟨bp0, 0, none⟩)), (1, .slice Ap1 (p1).length cp1), (12, .slice A1476 ((p0.l ++ ([t1285] : List (List T49)))).length c1477), (14, .pointer (some ⟨bp0, 0, none⟩))]) (by kernel_rfl) rfl rfl (by kernel_rfl) (np_then (np_then np_body)) trivial (fun W_ hS => trivial) fun a hk => ?_
    refine xd_op hk (i := 11) (by kernel_rfl) rfl rfl ?_
    refine op_store tab hk (t := 74) (v := .slice A1476 ((p0.l ++ ([t1285] : List (List T49)))).length c1477) (b := bp0) (k := 0) (cs' := [.slice A1476 ((p0.l ++ ([t1285] : List (List T49)))).length c1477, .slice Ap0_1 (p0.chains).length cp0_1, .slice Ap0_2 (p0.begun).length cp0_2]) rfl rfl rfl rfl rfl rfl f900019 rfl rfl fun w1480 o1481 st1482 f900019_ => ?_
    replace f1461 := f1461.st st1482 (by decide)
    replace f1472 := f1472.st st1482 (by decide)
    replace f1478 := f1478.st st1482 (by decide)
    replace f900001 := f900001.st st1482 (by decide)
    replace f900002 := f900002.st st1482 (by decide)
    replace f900020 := f900020.st st1482 (by decide)
    replace fg2 := fg2.st st1482 (by decide)
    replace hs := hs.locQ st1482 hob rfl
    replace f900019 := f900019_
    refine ⟨.inr trivial, ?_⟩
    refine xd_done (by kernel_rfl) ?_
    refine then_n ?_
    exact ⟨o1481, A1476, c1477, (p0.l ++ ([t1285] : List (List T49))), (by exact Kn.pick (ks := [0, 1]) hk rfl), hs, f1478, f900001, f900002, f900019, f900020, fg2, hc1479, H⟩
  have N1506 : ∀ (a_ : Act) (w_ : World), (∃ o1500 : Nat → Nat, ∃ A1501 : Option Addr, ∃ c1502 : Nat, Kn 38 a_ [(0, .pointer (some ⟨bp0, 0, none⟩)), (1, .slice Ap1 (p1).length cp1), (4, .pointer (some ⟨bp0, 0, none⟩)), (7, .pointer (some ⟨bp0, 0, none⟩)), (11, .slice A1501 (([t1285] : List (List T49))).length c1502)] ∧ St [2, 3, 4] w oi w_ o1500 ∧ NOwn (dRows ET49) 40 A1501 c1502 ([t1285] : List (List T49)) w_ o1500 76 1 ∧ NOwn (dRows ET49) 40 Ap0_0 cp0_0 p0.l w_ o1500 3 1 ∧ Ft (Own (encInt .i64) 3 (.slice Ap0_1 (p0.chains).length cp0_1) p0.chains) w_ o1500 4 ∧ Ft (Own ET49 50 (.slice Ap0_2 (p0.begun).length cp0_2) p0.begun) w_ o1500 5 ∧ Ft (Bx bp0 76 [.slice Ap0_0 (p0.l).length cp0_0, .slice Ap0_1 (p0.chains).length cp0_1, .slice Ap0_2 (p0.begun).length cp0_2]) w_ o1500 2 ∧ Ft (RdC ET49 Ap1 p1) w_ o1500 5 ∧ Ft (RdC (encInt .u32) (some ⟨2, 0, none⟩) glob2) w_ o1500 0 ∧ (([t1285] : List (List T49))).length ≤ c1502) → G 5 #[true, true, true, true, false, true, true, true, false, false, false, false] a_ w_ := by
    rintro a w1505 ⟨o1500, A1501, c1502, hk, hs, f1503, f900000, f900001, f900002, f900019, f900020, fg2, hc1504⟩
    refine xd_of hG ?_
    refine xd_op hk (i := 4) (by kernel_rfl) rfl rfl ?_
    refine op_quiet tab hk (lv := [.slice Ap0_0 (p0.l).length cp0_0]) (v := .slice Ap0_0 (p0.l).length cp0_0) rfl ⟨(load1 tab rfl ((Bx.cell f900019.now 0).trans rfl)), trivial⟩ ?_
    have hk := hk.put 8 (.slice Ap0_0 (p0.l).length cp0_0) rfl
    refine ⟨.inr trivial, ?_⟩
    refine xd_op hk (i := 8) (by kernel_rfl) rfl rfl ?_
    refine op_appendN (o := o1500) (D := (dRows ET49)) (xs := p0.l) (ys := ([t1285] : List (List T49))) tab hk rfl rfl rfl rfl rfl rfl rfl f900000 f1503.rd (by decide) q1305 fun A1510 c1511 w1507 o1508 st1509 f1512 hc1513 => ?_
    replace f1503 := f1503.st st1509 (by decide)
    replace f900001 := f900001.st st1509 (by decide)
    replace f900002 := f900002.st st1509 (by decide)
    replace f900019 := f900019.st st1509 (by decide)
    replace f900020 := f900020.st st1509 (by decide)
    replace fg2 := fg2.st st1509 (by decide)
    replace hs := hs.locQ st1509 hob rfl
    have hk := hk.put 12 (.slice A1510 ((p0.l ++ ([t1285] : List (List T49)))).length c1511) rfl
    refine ⟨.inr trivial, ?_⟩
    refine xd_take tab hk (k := 1) (is := [9, 10]) (ls' := #[true, true, true, true, true, true, true, true, true, true, true, false]) (lv := []) (ks := [0, 1, 12, 14]) (e' := [(0, .pointer (some ⟨bp0, 0, none⟩)), (1, .slice Ap1 (p1).length cp1), (12, .slice A1510 ((p0.l ++ ([t1285] : List (List T49)))).length c1511), (14, .pointer (some ⟨bp0, 0, none⟩))]) (by kernel_rfl) rfl rfl (by kernel_rfl) (np_then (np_then np_body)) trivial (fun W_ hS => trivial) fun a hk => ?_
    refine xd_op hk (i := 11) (by kernel_rfl) rfl rfl ?_
    refine op_store tab hk (t := 74) (v := .slice A1510 ((p0.l ++ ([t1285] : List (List T49)))).length c1511) (b := bp0) (k := 0) (cs' := [.slice A1510 ((p0.l ++ ([t1285] : List (List T49)))).length c1511, .slice Ap0_1 (p0.chains).length cp0_1, .slice Ap0_2 (p0.begun).length cp0_2]) rfl rfl rfl rfl rfl rfl f900019 rfl rfl fun w1514 o1515 st1516 f900019_ => ?_
    replace f1503 := f1503.st st1516 (by decide)
    replace f1512 := f1512.st st1516 (by decide)
    replace f900001 := f900001.st st1516 (by decide)
    replace f900002 := f900002.st st1516 (by decide)
    replace f900020 := f900020.st st1516 (by decide)
    replace fg2 := fg2.st st1516 (by decide)
    replace hs := hs.locQ st1516 hob rfl
    replace f900019 := f900019_
    refine ⟨.inr trivial, ?_⟩
    refine xd_done (by kernel_rfl) ?_
    refine then_n ?_
    exact ⟨o1515, A1510, c1511, (p0.l ++ ([t1285] : List (List T49))), (by exact Kn.pick (ks := [0, 1]) hk rfl), hs, f1512, f900001, f900002, f900019, f900020, fg2, hc1513, H⟩
  have N1448 : ∀ (a_ : Act) (w_ : World), (∃ o1442 : Nat → Nat, ∃ A1443 : Option Addr, ∃ c1444 : Nat, Kn 38 a_ [(0, .pointer (some ⟨bp0, 0, none⟩)), (1, .slice Ap1 (p1).length cp1), (4, .pointer (some ⟨bp0, 0, none⟩)), (7, .pointer (some ⟨bp0, 0, none⟩)), (10, .slice A1443 (t1285).length c1444)] ∧ St [2, 3, 4] w oi w_ o1442 ∧ Ft (Own ET49 50 (.slice A1443 (t1285).length c1444) t1285) w_ o1442 72 ∧ NOwn (dRows ET49) 40 Ap0_0 cp0_0 p0.l w_ o1442 3 1 ∧ Ft (Own (encInt .i64) 3 (.slice Ap0_1 (p0.chains).length cp0_1) p0.chains) w_ o1442 4 ∧ Ft (Own ET49 50 (.slice Ap0_2 (p0.begun).length cp0_2) p0.begun) w_ o1442 5 ∧ Ft (Bx bp0 76 [.slice Ap0_0 (p0.l).length cp0_0, .slice Ap0_1 (p0.chains).length cp0_1, .slice Ap0_2 (p0.begun).length cp0_2]) w_ o1442 2 ∧ Ft (RdC ET49 Ap1 p1) w_ o1442 5 ∧ Ft (RdC (encInt .u32) (some ⟨2, 0, none⟩) glob2) w_ o1442 0 ∧ (t1285).length ≤ c1444) → G 6 #[true, true, true, true, false, true, true, false, false, false, false, false] a_ w_ := by
    rintro a w1447 ⟨o1442, A1443, c1444, hk, hs, f1445, f900000, f900001, f900002, f900019, f900020, fg2, hc1446⟩
    refine xd_of hG ?_
    refine xd_each [4, 7] (by kernel_rfl) rfl ⟨?_, ?_, trivial⟩
    · refine xd_one hk rfl rfl ?_
      refine op_quiet tab hk (lv := [.slice Ap0_0 (p0.l).length cp0_0]) (v := .slice Ap0_0 (p0.l).length cp0_0) rfl ⟨(load1 tab rfl ((Bx.cell f900019.now 0).trans rfl)), trivial⟩ ?_
      have hk := hk.put 8 (.slice Ap0_0 (p0.l).length cp0_0) rfl
      refine ⟨.inr trivial, ?_⟩
      exact xd_to hG rfl (N1464 _ _ ⟨(fun b_ => (fun l_ => if l_ = 72 then 73 else l_) (o1442 b_)), A1443, c1444, (by exact Kn.pick (ks := [0, 1, 4, 8, 10]) hk rfl), (hs.relabM hob (fun l_ => if l_ = 72 then 73 else l_) (by decide)), (f1445.relab (fun l_ => if l_ = 72 then 73 else l_) rfl), (f900000.relab (fun l_ => if l_ = 72 then 73 else l_) rfl), (f900001.relab (fun l_ => if l_ = 72 then 73 else l_) rfl), (f900002.relab (fun l_ => if l_ = 72 then 73 else l_) rfl), (f900019.relab (fun l_ => if l_ = 72 then 73 else l_) rfl), (f900020.relab (fun l_ => if l_ = 72 then 73 else l_) rfl), (fg2.relab (fun l_ => if l_ = 72 then 73 else l_) rfl), hc1446⟩)
    · refine xd_one hk rfl rfl ?_
      obtain ⟨o1486, hR1487⟩ := relab_ex o1442 (fun l_ => if l_ = 72 then 1 else l_)
      replace hs : St [2, 3, 4] w oi w1447 o1486 := by rw [hR1487]; exact (hs.relabM hob (fun l_ => if l_ = 72 then 1 else l_) (by decide))
      replace f1445 : Ft (Own ET49 50 (.slice A1443 (t1285).length c1444) t1285) w1447 o1486 1 := by rw [hR1487]; exact f1445.relab (fun l_ => if l_ = 72 then 1 else l_) rfl
      replace f900000 : NOwn (dRows ET49) 40 Ap0_0 cp0_0 p0.l w1447 o1486 3 1 := by rw [hR1487]; exact f900000.relab (fun l_ => if l_ = 72 then 1 else l_) rfl
      replace f900001 : Ft (Own (encInt .i64) 3 (.slice Ap0_1 (p0.chains).length cp0_1) p0.chains) w1447 o1486 4 := by rw [hR1487]; exact f900001.relab (fun l_ => if l_ = 72 then 1 else l_) rfl
      replace f900002 : Ft (Own ET49 50 (.slice Ap0_2 (p0.begun).length cp0_2) p0.begun) w1447 o1486 5 := by rw [hR1487]; exact f900002.relab (fun l_ => if l_ = 72 then 1 else l_) rfl
      replace f900019 : Ft (Bx bp0 76 [.slice Ap0_0 (p0.l).length cp0_0, .slice Ap0_1 (p0.chains).length cp0_1, .slice Ap0_2 (p0.begun).length cp0_2]) w1447 o1486 2 := by rw [hR1487]; exact f900019.relab (fun l_ => if l_ = 72 then 1 else l_) rfl
      replace f900020 : Ft (RdC ET49 Ap1 p1) w1447 o1486 5 := by rw [hR1487]; exact f900020.relab (fun l_ => if l_ = 72 then 1 else l_) rfl
      replace fg2 : Ft (RdC (encInt .u32) (some ⟨2, 0, none⟩) glob2) w1447 o1486 0 := by rw [hR1487]; exact fg2.relab (fun l_ => if l_ = 72 then 1 else l_) rfl
      refine op_slice (o := o1486) tab hk (vs := [.slice A1443 (t1285).length c1444]) (cs := [.slice A1443 (t1285).length c1444]) rfl rfl rfl rfl rfl rfl rfl rfl rfl 75 fun bx1488 w1483 o1484 st1485 f1489 => ?_
      replace f1445 := f1445.st st1485 (by decide)
      replace f900000 := f900000.st st1485 (by decide)
      replace f900001 := f900001.st st1485 (by decide)
      replace f900002 := f900002.st st1485 (by decide)
      replace f900019 := f900019.st st1485 (by decide)
      replace f900020 := f900020.st st1485 (by decide)
      replace fg2 := fg2.st st1485 (by decide)
      replace hs := hs.locQ st1485 hob rfl
      have f1490 : NOwn (dRows ET49) 40 (some ⟨bx1488, 0, none⟩) 1 ([t1285] : List (List T49)) w1483 o1484 75 1 := NOwn.lit f1489 [⟨A1443, c1444, t1285⟩] rfl (Inn.consF (f1445.imp fun _ h_ => Own.rd h_) hc1446 (Inn.nilF _ _ _ _)) rfl (Nat.le_of_ble_eq_true rfl)
      have hk := hk.put 11 (.slice (some ⟨bx1488, 0, none⟩) (([t1285] : List (List T49))).length 1) rfl
      refine ⟨.inr trivial, ?_⟩
      exact xd_to hG rfl (N1506 _ _ ⟨(fun b_ => (fun l_ => if l_ = 75 then 76 else l_) (o1484 b_)), (some ⟨bx1488, 0, none⟩), 1, (by exact Kn.pick (ks := [0, 1, 4, 7, 11]) hk rfl), (hs.relabM hob (fun l_ => if l_ = 75 then 76 else l_) (by decide)), (f1490.relab (fun l_ => if l_ = 75 then 76 else l_) rfl), (f900000.relab (fun l_ => if l_ = 75 then 76 else l_) rfl), (f900001.relab (fun l_ => if l_ = 75 then 76 else l_) rfl), (f900002.relab (fun l_ => if l_ = 75 then 76 else l_) rfl), (f900019.relab (fun l_ => if l_ = 75 then 76 else l_) rfl), (f900020.relab (fun l_ => if l_ = 75 then 76 else l_) rfl), (fg2.relab (fun l_ => if l_ = 75 then 76 else l_) rfl), (Nat.le_refl _)⟩)
  refine xd_of hG ?_
  refine xd_take tab hk (k := 7) (is := [0, 1, 2, 3, 5]) (ls' := #[true, true, true, true, false, true, false, false, false, false, false, false]) (lv := []) (ks := [0, 1, 4, 7, 9]) (e' := [(0, .pointer (some ⟨bp0, 0, none⟩)), (1, .slice Ap1 (p1).length cp1), (4, .pointer (some ⟨bp0, 0, none⟩)), (7, .pointer (some ⟨bp0, 0, none⟩)), (9, .slice Ap1 (p1).length cp1)]) (by kernel_rfl) rfl rfl (by kernel_rfl) (np_then (np_then np_body)) trivial (fun W_ hS => trivial) fun a hk => ?_
  refine xd_each [4, 6] (by kernel_rfl) rfl ⟨?_, ?_, trivial⟩
  · refine xd_one hk rfl rfl ?_
    refine op_quiet tab hk (lv := [.slice Ap0_0 (p0.l).length cp0_0]) (v := .slice Ap0_0 (p0.l).length cp0_0) rfl ⟨(load1 tab rfl ((Bx.cell f900019.now 0).trans rfl)), trivial⟩ ?_
    have hk := hk.put 8 (.slice Ap0_0 (p0.l).length cp0_0) rfl
    refine ⟨.inr trivial, ?_⟩
    exact xd_to hG rfl (N1394 _ _ ⟨oi, (by exact Kn.pick (ks := [0, 1, 4, 8, 9]) hk rfl), hs, f900000, f900001, f900002, f900019, f900020, fg2⟩)
  · refine xd_one hk rfl rfl ?_
    refine op_call hk ent_36 (vs := [.slice Ap1 (p1).length cp1]) rfl (slices_Clone'_calls Ap1 cp1 p1 _ oi _ f900020 hcp1 71  _ hc1286) ?_
    rintro _ w1426 ⟨o1427, A1429, c1430, rfl, st1428, f1431, hc1432⟩
    replace f900000 := f900000.st st1428 (by decide)
    replace f900001 := f900001.st st1428 (by decide)
    replace f900002 := f900002.st st1428 (by decide)
    replace f900019 := f900019.st st1428 (by decide)
    replace f900020 := f900020.st st1428 (by decide)
    replace fg2 := fg2.st st1428 (by decide)
    replace hs := hs.locQ st1428 hob rfl
    have hk := hk.put 10 (.slice A1429 (t1285).length c1430) rfl
    refine ⟨.inr trivial, ?_⟩
    exact xd_to hG rfl (N1448 _ _ ⟨(fun b_ => (fun l_ => if l_ = 71 then 72 else l_) (o1427 b_)), A1429, c1430, (by exact Kn.pick (ks := [0, 1, 4, 7, 10]) hk rfl), (hs.relabM hob (fun l_ => if l_ = 71 then 72 else l_) (by decide)), (f1431.relab (fun l_ => if l_ = 71 then 72 else l_) rfl), (f900000.relab (fun l_ => if l_ = 71 then 72 else l_) rfl), (f900001.relab (fun l_ => if l_ = 71 then 72 else l_) rfl), (f900002.relab (fun l_ => if l_ = 71 then 72 else l_) rfl), (f900019.relab (fun l_ => if l_ = 71 then 72 else l_) rfl), (f900020.relab (fun l_ => if l_ = 71 then 72 else l_) rfl), (fg2.relab (fun l_ => if l_ = 71 then 72 else l_) rfl), hc1432⟩)

/-! (*tidewrack/book.Book).Add -/
set_option maxHeartbeats 4000000 in
theorem book_Book_Add_calls (K : Nat) (bp0 : Nat) (Ap0_0 : Option Addr) (cp0_0 : Nat) (Ap0_1 : Option Addr) (cp0_1 : Nat) (Ap0_2 : Option Addr) (cp0_2 : Nat) (p0 : T75) (Ap1 : Option Addr) (cp1 : Nat) (p1 : List T26) (w : World) (o : Nat → Nat) (LF : Nat) (Lg2 : Nat) (hg2 : Ft (RdC (encInt .u32) (some ⟨2, 0, none⟩) glob2) w o Lg2) (Lp0 : Nat) (hp0 : Ft (Bx bp0 76 [.slice Ap0_0 (p0.l).length cp0_0, .slice Ap0_1 (p0.chains).length cp0_1, .slice Ap0_2 (p0.begun).length cp0_2]) w o Lp0) (Lp0_0 : Nat) (hp0_0 : NOwn (dRows ET49) 40 Ap0_0 cp0_0 p0.l w o Lp0_0 LF) (hcp0_0 : (p0.l).length ≤ cp0_0) (Lp0_1 : Nat) (hp0_1 : Ft (Own (encInt .i64) 3 (.slice Ap0_1 (p0.chains).length cp0_1) p0.chains) w o Lp0_1) (hcp0_1 : (p0.chains).length ≤ cp0_1) (Lp0_2 : Nat) (hp0_2 : Ft (Own ET49 50 (.slice Ap0_2 (p0.begun).length cp0_2) p0.begun) w o Lp0_2) (hcp0_2 : (p0.begun).length ≤ cp0_2) (Lp1 : Nat) (hp1 : NRd dT26 Ap1 p1 w o Lp1 LF) (hcp1 : (p1).length ≤ cp1) (hd0 : ([LF, Lp0, Lp0_0, Lp0_1, Lp0_2] : List Nat).Nodup) (hd1 : Lg2 ∉ [LF, Lp0, Lp0_0, Lp0_1, Lp0_2]) (hd2 : Lp1 ∉ [LF, Lp0, Lp0_0, Lp0_1, Lp0_2]) (r : Int × T75) (H : book_Book_Add K p0 p1 = some r) :
    Calls Tryd.prog 12 #[.pointer (some ⟨bp0, 0, none⟩), .slice Ap1 (p1).length cp1] w (Ret fun v_ w' => ∃ o' : Nat → Nat, ∃ A0 : Option Addr, ∃ c0 : Nat, ∃ A1 : Option Addr, ∃ c1 : Nat, ∃ A2 : Option Addr, ∃ c2 : Nat, v_ = .int .i64 r.1 ∧ St [Lp0, Lp0_0, Lp0_1, Lp0_2] w o w' o' ∧ Ft (Bx bp0 76 [.slice A0 (r.2.l).length c0, .slice A1 (r.2.chains).length c1, .slice A2 (r.2.begun).length c2]) w' o' Lp0 ∧ NOwn (dRows ET49) 40 A0 c0 (r.2.l) w' o' Lp0_0 LF ∧ (r.2.l).length ≤ c0 ∧ Ft (Own (encInt .i64) 3 (.slice A1 (r.2.chains).length c1) (r.2.chains)) w' o' Lp0_1 ∧ (r.2.chains).length ≤ c1 ∧ Ft (Own ET49 50 (.slice A2 (r.2.begun).length c2) (r.2.begun)) w' o' Lp0_2 ∧ (r.2.begun).length ≤ c2) := by
  refine x_enter (vs := [.pointer (some ⟨bp0, 0, none⟩), .slice Ap1 (p1).length cp1]) Tryd.func12 rfl rfl rfl fun a hk => ?_
  obtain ⟨oi, hs0, h0, h1, hob, hoz, hoa⟩ := St.startM2 w o (m := 5) hd0 rfl
  have hs := hs0 [2, 3, 4, 5]
  have fg2 := h0 _ _ hd1 hg2
  have f900000 := hp0_0.conv (fun _ h_ => h1 2 3 h_ rfl rfl) (fun _ h_ => h1 0 1 h_ rfl rfl)
  have f900001 := h1 3 4 hp0_1 rfl rfl
  have f900002 := h1 4 5 hp0_2 rfl rfl
  have f900019 := h1 1 2 hp0 rfl rfl
  have f900020 := hp1.conv (fun P_ => h0 P_ _ hd2) (fun _ h_ => h1 0 1 h_ rfl rfl)
  clear h0 h1 hs0
  rw [book_Book_Add] at H
  refine x_seq ?_
  refine wpIn_region_lit ?_
  refine x_run tab hk (k := 1) (lv := []) (ks := [0, 1]) (e' := [(0, .pointer (some ⟨bp0, 0, none⟩)), (1, .slice Ap1 (p1).length cp1)]) rfl trivial fun a hk => ?_
  refine wpListIn_nil ?_
  refine then_n ?_
  refine x_seq ?_
  refine wpIn_region_lit ?_
  refine x_run tab hk (k := 6) (lv := [.slice Ap0_0 (p0.l).length cp0_0]) (ks := [0, 1, 5]) (e' := [(0, .pointer (some ⟨bp0, 0, none⟩)), (1, .slice Ap1 (p1).length cp1), (5, .int .i64 ((p0.l).length : Int))]) rfl ⟨(load1 tab rfl ((Bx.cell f900019.now 0).trans rfl)), trivial⟩ fun a hk => ?_
  refine wpListIn_nil ?_
  refine then_n ?_
  refine x_mid (fun a_ w_ => ∃ o4729 : Nat → Nat, ∃ A4730 : Option Addr, ∃ c4731 : Nat, ∃ l4732 : List (List T49), ∃ A4735 : Option Addr, ∃ c4736 : Nat, ∃ l4737 : List Int, ∃ A4740 : Option Addr, ∃ c4741 : Nat, ∃ l4742 : List T49, Kn 71 a_ [(0, .pointer (some ⟨bp0, 0, none⟩)), (5, .int .i64 ((p0.l).length : Int))] ∧ St [2, 3, 4, 5] w oi w_ o4729 ∧ NOwn (dRows ET49) 40 A4730 c4731 l4732 w_ o4729 3 1 ∧ Ft (Own (encInt .i64) 3 (.slice A4735 (l4737).length c4736) l4737) w_ o4729 4 ∧ Ft (Own ET49 50 (.slice A4740 (l4742).length c4741) l4742) w_ o4729 5 ∧ Ft (Bx bp0 76 [.slice A4730 (l4732).length c4731, .slice A4735 (l4737).length c4736, .slice A4740 (l4742).length c4741]) w_ o4729 2 ∧ Ft (RdC (encInt .u32) (some ⟨2, 0, none⟩) glob2) w_ o4729 0 ∧ (l4732).length ≤ c4731 ∧ (l4737).length ≤ c4736 ∧ (l4742).length ≤ c4741 ∧ book_Book_Add_j1 p0 l4732 l4737 l4742 = some r) ?_ ?_
  rotate_left
  · rintro a w4745 ⟨o4729, A4730, c4731, l4732, A4735, c4736, l4737, A4740, c4741, l4742, hk, hs, f4733, f4738, f4743, f900019, fg2, hc4734, hc4739, hc4744, H⟩
    rw [book_Book_Add_j1] at H
    refine x_seq ?_
    refine wpIn_region_lit ?_
    refine x_run tab hk (k := 8) (lv := [.slice A4730 (l4732).length c4731]) (ks := [4]) (e' := [(4, .int .i64 (IntKind.wrap .i64 (((l4732).length : Int) - ((p0.l).length : Int))))]) rfl ⟨(load1 tab rfl ((Bx.cell f900019.now 0).trans rfl)), trivial⟩ fun a hk => ?_
    refine wpListIn_nil ?_
    refine then_n ?_
    refine wpIn_ret ?_
    obtain rfl := Option.some.inj H
    exact x_retG hk (rs := [.tmp 4]) (vs := [.int .i64 (IntKind.wrap .i64 (((l4732).length : Int) - ((p0.l).length : Int)))]) rfl ⟨rfl, trivial⟩ ⟨fun b_ => if b_ < w.heap.size then o b_ else (fun l_ => if l_ = 1 then LF else if l_ = 2 then Lp0 else if l_ = 3 then Lp0_0 else if l_ = 4 then Lp0_1 else if l_ = 5 then Lp0_2 else 0) (o4729 b_), A4730, c4731, A4735, c4736, A4740, c4741, rfl, hs.closeF (Lm := [Lp0, Lp0_0, Lp0_1, Lp0_2]) (Sh := []) hoa rfl (fun l_ => if l_ = 1 then LF else if l_ = 2 then Lp0 else if l_ = 3 then Lp0_0 else if l_ = 4 then Lp0_1 else if l_ = 5 then Lp0_2 else 0), hs.closeM_ft (o := o) (ρ := fun l_ => if l_ = 1 then LF else if l_ = 2 then Lp0 else if l_ = 3 then Lp0_0 else if l_ = 4 then Lp0_1 else if l_ = 5 then Lp0_2 else 0) f900019 (lab_at hoa (i := 1) rfl) rfl, f4733.conv (fun _ h_ => hs.closeM_ft (o := o) (ρ := fun l_ => if l_ = 1 then LF else if l_ = 2 then Lp0 else if l_ = 3 then Lp0_0 else if l_ = 4 then Lp0_1 else if l_ = 5 then Lp0_2 else 0) h_ (lab_at hoa (i := 2) rfl) rfl) (fun _ h_ => hs.closeM_ft (o := o) (ρ := fun l_ => if l_ = 1 then LF else if l_ = 2 then Lp0 else if l_ = 3 then Lp0_0 else if l_ = 4 then Lp0_1 else if l_ = 5 then Lp0_2 else 0) h_ (lab_at hoa (i := 0) rfl) rfl), hc4734, hs.closeM_ft (o := o) (ρ := fun l_ => if l_ = 1 then LF else if l_ = 2 then Lp0 else if l_ = 3 then Lp0_0 else if l_ = 4 then Lp0_1 else if l_ = 5 then Lp0_2 else 0) f4738 (lab_at hoa (i := 3) rfl) rfl, hc4739, hs.closeM_ft (o := o) (ρ := fun l_ => if l_ = 1 then LF else if l_ = 2 then Lp0 else if l_ = 3 then Lp0_0 else if l_ = 4 then Lp0_1 else if l_ = 5 then Lp0_2 else 0) f4743 (lab_at hoa (i := 4) rfl) rfl, hc4744⟩
  refine x_seq ?_
  refine wpIn_region_lit ?_
  refine x_run tab hk (k := 3) (lv := []) (ks := [0, 5, 13, 14, 15]) (e' := [(0, .pointer (some ⟨bp0, 0, none⟩)), (5, .int .i64 ((p0.l).length : Int)), (13, .slice Ap1 (p1).length cp1), (14, .int .i64 ((p1).length : Int)), (15, .int .i64 0)]) rfl trivial fun a hk => ?_
  refine wpListIn_nil ?_
  refine then_n ?_
  refine wpIn_block ?_
  refine x_loop (fun j_ a_ w_ => ∃ o6309 : Nat → Nat, ∃ A6310 : Option Addr, ∃ c6311 : Nat, ∃ l6312 : List (List T49), ∃ A6315 : Option Addr, ∃ c6316 : Nat, ∃ l6317 : List Int, ∃ A6320 : Option Addr, ∃ c6321 : Nat, ∃ l6322 : List T49, ∃ A6325 : Option Addr, ∃ c6326 : Nat, ∃ x6329 : Int, Kn 71 a_ [(0, .pointer (some ⟨bp0, 0, none⟩)), (5, .int .i64 ((p0.l).length : Int)), (13, .slice A6325 (p1).length c6326), (14, .int .i64 ((p1).length : Int)), (15, .int .i64 x6329)] ∧ St [2, 3, 4, 5] w oi w_ o6309 ∧ NOwn (dRows ET49) 40 A6310 c6311 l6312 w_ o6309 3 1 ∧ Ft (Own (encInt .i64) 3 (.slice A6315 (l6317).length c6316) l6317) w_ o6309 4 ∧ Ft (Own ET49 50 (.slice A6320 (l6322).length c6321) l6322) w_ o6309 5 ∧ NRd dT26 A6325 p1 w_ o6309 0 1 ∧ Ft (Bx bp0 76 [.slice A6310 (l6312).length c6311, .slice A6315 (l6317).length c6316, .slice A6320 (l6322).length c6321]) w_ o6309 2 ∧ Ft (RdC (encInt .u32) (some ⟨2, 0, none⟩) glob2) w_ o6309 0 ∧ (l6312).length ≤ c6311 ∧ (l6317).length ≤ c6316 ∧ (l6322).length ≤ c6321 ∧ (p1).length ≤ c6326 ∧ book_Book_Add_l2 K p0 p1 j_ l6312 l6317 l6322 x6329 = some r) (k := K) ⟨oi, Ap0_0, cp0_0, p0.l, Ap0_1, cp0_1, p0.chains, Ap0_2, cp0_2, p0.begun, Ap1, cp1, 0, (by exact Kn.pick (ks := [0, 5, 13, 14, 15]) hk rfl), hs, f900000, f900001, f900002, f900020, f900019, fg2, hcp0_0, hcp0_1, hcp0_2, hcp1, H⟩ (by rintro _ _ ⟨_, _, _, _, _, _, _, _, _, _, _, _, _, _, _, _, _, _, _, _, _, _, _, _, _, H_⟩; exact absurd (show (none : Option (Int × T75)) = some r from H_) (by simp)) ?_
  rintro k7891 a w7890 ⟨o6309, A6310, c6311, l6312, A6315, c6316, l6317, A6320, c6321, l6322, A6325, c6326, x6329, hk, hs, f6313, f6318, f6323, f6327, f900019, fg2, hc6314, hc6319, hc6324, hc6328, H⟩
  rw [book_Book_Add_l2] at H
  obtain ⟨lp7892, hlp7893⟩ : ∃ lp_, lp_ = book_Book_Add_l2 K p0 p1 k7891 := ⟨_, rfl⟩
  rw [← hlp7893] at H
  refine x_seq ?_
  refine wpIn_region_lit ?_
  refine x_run tab hk (k := 1) (lv := []) (ks := [0, 5, 13, 14, 15, 16]) (e' := [(0, .pointer (some ⟨bp0, 0, none⟩)), (5, .int .i64 ((p0.l).length : Int)), (13, .slice A6325 (p1).length c6326), (14, .int .i64 ((p1).length : Int)), (15, .int .i64 x6329), (16, .bool (decide (x6329 < ((p1).length : Int))))]) rfl trivial fun a hk => ?_
  refine wpListIn_nil ?_
  refine then_n ?_
  refine x_seq ?_
  cases b7894 : (decide (x6329 < ((p1).length : Int)))
  · rw [b7894] at hk H
    replace H := bifF H
    refine x_if hk (b := false) rfl ?_
    refine (show Code.wpIn _ _ _ _ _ _ _ from ?_)
    refine wpIn_exit ?_
    refine then_x ?_
    refine then_x ?_
    refine blk_x ?_
    refine then_n ?_
    exact ⟨o6309, A6310, c6311, l6312, A6315, c6316, l6317, A6320, c6321, l6322, (by exact Kn.pick (ks := [0, 5]) hk rfl), hs, f6313, f6318, f6323, f900019, fg2, hc6314, hc6319, hc6324, H⟩
  · rw [b7894] at hk H
    replace H := bifT H
    refine x_if hk (b := true) rfl ?_
    refine (show Code.wpIn _ _ _ _ _ _ _ from ?_)
    refine wpIn_skip ?_
    refine then_n ?_
    refine x_mid (fun a_ w_ => ∃ o8676 : Nat → Nat, ∃ A8677 : Option Addr, ∃ c8678 : Nat, ∃ l8679 : List (List T49), ∃ A8682 : Option Addr, ∃ c8683 : Nat, ∃ l8684 : List Int, ∃ A8687 : Option Addr, ∃ c8688 : Nat, ∃ l8689 : List T49, ∃ A8692 : Option Addr, ∃ c8693 : Nat, Kn 71 a_ [(0, .pointer (some ⟨bp0, 0, none⟩)), (5, .int .i64 ((p0.l).length : Int)), (13, .slice A8692 (p1).length c8693), (14, .int .i64 ((p1).length : Int)), (15, .int .i64 x6329)] ∧ St [2, 3, 4, 5] w oi w_ o8676 ∧ NOwn (dRows ET49) 40 A8677 c8678 l8679 w_ o8676 3 1 ∧ Ft (Own (encInt .i64) 3 (.slice A8682 (l8684).length c8683) l8684) w_ o8676 4 ∧ Ft (Own ET49 50 (.slice A8687 (l8689).length c8688) l8689) w_ o8676 5 ∧ NRd dT26 A8692 p1 w_ o8676 0 1 ∧ Ft (Bx bp0 76 [.slice A8677 (l8679).length c8678, .slice A8682 (l8684).length c8683, .slice A8687 (l8689).length c8688]) w_ o8676 2 ∧ Ft (RdC (encInt .u32) (some ⟨2, 0, none⟩) glob2) w_ o8676 0 ∧ (l8679).length ≤ c8678 ∧ (l8684).length ≤ c8683 ∧ (l8689).length ≤ c8688 ∧ (p1).length ≤ c8693 ∧ book_Book_Add_j3 x6329 lp7892 l8679 l8684 l8689 = some r) ?_ ?_
    rotate_left
    · rintro a w8696 ⟨o8676, A8677, c8678, l8679, A8682, c8683, l8684, A8687, c8688, l8689, A8692, c8693, hk, hs, f8680, f8685, f8690, f8694, f900019, fg2, hc8681, hc8686, hc8691, hc8695, H⟩
      rw [book_Book_Add_j3] at H
      refine wpIn_region_lit ?_
      refine x_run tab hk (k := 2) (lv := []) (ks := [0, 5, 13, 14, 15]) (e' := [(0, .pointer (some ⟨bp0, 0, none⟩)), (5, .int .i64 ((p0.l).length : Int)), (13, .slice A8692 (p1).length c8693), (14, .int .i64 ((p1).length : Int)), (15, .int .i64 (IntKind.wrap .i64 (x6329 + 1)))]) rfl trivial fun a hk => ?_
      refine wpListIn_nil ?_
      refine then_n ?_
      exact ⟨k7891, Nat.le_refl _, o8676, A8677, c8678, l8679, A8682, c8683, l8684, A8687, c8688, l8689, A8692, c8693, (IntKind.wrap .i64 (x6329 + 1)), (by exact Kn.pick (ks := [0, 5, 13, 14, 15]) hk rfl), hs, f8680, f8685, f8690, f8694, f900019, fg2, hc8681, hc8686, hc8691, hc8695, (hlp7893 ▸ H)⟩
    refine wpIn_block ?_
    refine x_seq ?_
    refine wpIn_region_lit ?_
    obtain ⟨q8697, H⟩ := ifS H
    obtain ⟨ad8698, hAad8698⟩ := NRd.addr f6327 q8697
    have hk_C := hk
    have f6313_C := f6313
    have f6318_C := f6318
    have f6323_C := f6323
    have f6327_C := f6327
    have f900019_C := f900019
    have fg2_C := fg2
    subst hAad8698
    have hk := hk_C
    clear hk_C
    have f6313 := f6313_C
    clear f6313_C
    have f6318 := f6318_C
    clear f6318_C
    have f6323 := f6323_C
    clear f6323_C
    have f6327 := f6327_C
    clear f6327_C
    have f900019 := f900019_C
    clear f900019_C
    have fg2 := fg2_C
    clear fg2_C
    obtain ⟨A8699, c8700, f8701, f8702, hc8703⟩ := elT26 f6327 (i := x6329) q8697
    refine x_run tab hk (k := 2) (lv := [.agg #[.slice A8699 ((rdD zT26 p1 x6329).Cells).length c8700, .bool ((rdD zT26 p1 x6329).Wrapped)]]) (ks := [0, 5, 13, 14, 15, 18]) (e' := [(0, .pointer (some ⟨bp0, 0, none⟩)), (5, .int .i64 ((p0.l).length : Int)), (13, .slice (some ad8698) (p1).length c6326), (14, .int .i64 ((p1).length : Int)), (15, .int .i64 x6329), (18, .agg #[.slice A8699 ((rdD zT26 p1 x6329).Cells).length c8700, .bool ((rdD zT26 p1 x6329).Wrapped)])]) rfl ⟨q8697, (CellsAt.all f8701.now tab rfl rfl rfl), trivial⟩ fun a hk => ?_
    refine x_op hk rfl ?_
    refine op_alloc (o := o6309) tab (t := 27) (cs := [.slice none 0 0, .bool false]) rfl rfl 358 fun bx8707 w8704 o8705 st8706 f8708 => ?_
    replace f6313 := f6313.st st8706 (by decide)
    replace f6318 := f6318.st st8706 (by decide)
    replace f6323 := f6323.st st8706 (by decide)
    replace f6327 := f6327.st st8706 (by decide)
    replace f8702 := f8702.st st8706 (by decide)
    replace f900019 := f900019.st st8706 (by decide)
    replace fg2 := fg2.st st8706 (by decide)
    replace hs := hs.locQ st8706 hob rfl
    have hk := hk.put 7 (.pointer (some ⟨bx8707, 0, none⟩)) rfl
    refine x_op hk rfl ?_
    refine op_store tab hk (t := 27) (v := .agg #[.slice A8699 ((rdD zT26 p1 x6329).Cells).length c8700, .bool ((rdD zT26 p1 x6329).Wrapped)]) (b := bx8707) (k := 0) (cs' := [.slice A8699 ((rdD zT26 p1 x6329).Cells).length c8700, .bool ((rdD zT26 p1 x6329).Wrapped)]) rfl rfl rfl rfl rfl rfl f8708 rfl rfl fun w8709 o8710 st8711 f8708_ => ?_
    replace f6313 := f6313.st st8711 (by decide)
    replace f6318 := f6318.st st8711 (by decide)
    replace f6323 := f6323.st st8711 (by decide)
    replace f6327 := f6327.st st8711 (by decide)
    replace f8702 := f8702.st st8711 (by decide)
    replace f900019 := f900019.st st8711 (by decide)
    replace fg2 := fg2.st st8711 (by decide)
    replace hs := hs.locQ st8711 hob rfl
    replace f8708 := f8708_
    refine wpListIn_nil ?_
    refine then_n ?_
    refine x_seq ?_
    refine x_cut (fun a_ w_ => ∃ o8895 : Nat → Nat, ∃ A8896 : Option Addr, ∃ c8897 : Nat, ∃ l8898 : List T49, Kn 71 a_ [(0, .pointer (some ⟨bp0, 0, none⟩)), (5, .int .i64 ((p0.l).length : Int)), (7, .pointer (some ⟨bx8707, 0, none⟩)), (13, .slice (some ad8698) (p1).length c6326), (14, .int .i64 ((p1).length : Int)), (15, .int .i64 x6329)] ∧ St [2, 3, 4, 5] w oi w_ o8895 ∧ NOwn (dRows ET49) 40 A6310 c6311 l6312 w_ o8895 3 1 ∧ Ft (Own (encInt .i64) 3 (.slice A6315 (l6317).length c6316) l6317) w_ o8895 4 ∧ NRd dT26 (some ad8698) p1 w_ o8895 0 1 ∧ Ft (RdC ET82 A8699 ((rdD zT26 p1 x6329).Cells)) w_ o8895 1 ∧ Ft (Bx bx8707 27 [.slice A8699 ((rdD zT26 p1 x6329).Cells).length c8700, .bool ((rdD zT26 p1 x6329).Wrapped)]) w_ o8895 369 ∧ Ft (Own ET49 50 (.slice A8896 (l8898).length c8897) l8898) w_ o8895 5 ∧ Ft (Bx bp0 76 [.slice A6310 (l6312).length c6311, .slice A6315 (l6317).length c6316, .slice A8896 (l8898).length c8897]) w_ o8895 2 ∧ Ft (RdC (encInt .u32) (some ⟨2, 0, none⟩) glob2) w_ o8895 0 ∧ (l8898).length ≤ c8897 ∧ book_Book_Add_j4 K p1 l6312 l6317 x6329 lp7892 l8898 = some r) ?_ ?_
    rotate_left
    · rintro a w8901 ⟨o8895, A8896, c8897, l8898, hk, hs, f6313, f6318, f6327, f8702, f8708, f8899, f900019, fg2, hc8900, H⟩
      rw [book_Book_Add_j4] at H
      refine then_n ?_
      refine x_mid (fun a_ w_ => ∃ o9092 : Nat → Nat, ∃ A9093 : Option Addr, ∃ c9094 : Nat, ∃ l9095 : List (List T49), ∃ A9098 : Option Addr, ∃ c9099 : Nat, ∃ l9100 : List Int, ∃ A9103 : Option Addr, ∃ c9104 : Nat, ∃ l9105 : List T49, Kn 71 a_ [(0, .pointer (some ⟨bp0, 0, none⟩)), (5, .int .i64 ((p0.l).length : Int)), (7, .pointer (some ⟨bx8707, 0, none⟩)), (13, .slice (some ad8698) (p1).length c6326), (14, .int .i64 ((p1).length : Int)), (15, .int .i64 x6329)] ∧ St [2, 3, 4, 5] w oi w_ o9092 ∧ NRd dT26 (some ad8698) p1 w_ o9092 0 1 ∧ Ft (RdC ET82 A8699 ((rdD zT26 p1 x6329).Cells)) w_ o9092 1 ∧ Ft (Bx bx8707 27 [.slice A8699 ((rdD zT26 p1 x6329).Cells).length c8700, .bool ((rdD zT26 p1 x6329).Wrapped)]) w_ o9092 375 ∧ Ft (Bx bp0 76 [.slice A9093 (l9095).length c9094, .slice A9098 (l9100).length c9099, .slice A9103 (l9105).length c9104]) w_ o9092 2 ∧ NOwn (dRows ET49) 40 A9093 c9094 l9095 w_ o9092 3 1 ∧ Ft (Own (encInt .i64) 3 (.slice A9098 (l9100).length c9099) l9100) w_ o9092 4 ∧ Ft (Own ET49 50 (.slice A9103 (l9105).length c9104) l9105) w_ o9092 5 ∧ Ft (RdC (encInt .u32) (some ⟨2, 0, none⟩) glob2) w_ o9092 0 ∧ (l9095).length ≤ c9094 ∧ (l9100).length ≤ c9099 ∧ (l9105).length ≤ c9104 ∧ book_Book_Add_j5 K p1 x6329 lp7892 l9095 l9100 l9105 = some r) ?_ ?_
      rotate_left
      · rintro a w9108 ⟨o9092, A9093, c9094, l9095, A9098, c9099, l9100, A9103, c9104, l9105, hk, hs, f6327, f8702, f8708, f900019, f9096, f9101, f9106, fg2, hc9097, hc9102, hc9107, H⟩
        rw [book_Book_Add_j5] at H
        refine x_seq ?_
        refine wpIn_region_lit ?_
        refine x_run tab hk (k := 3) (lv := [.bool ((rdD zT26 p1 x6329).Wrapped)]) (ks := [0, 5, 13, 14, 15, 53]) (e' := [(0, .pointer (some ⟨bp0, 0, none⟩)), (5, .int .i64 ((p0.l).length : Int)), (13, .slice (some ad8698) (p1).length c6326), (14, .int .i64 ((p1).length : Int)), (15, .int .i64 x6329), (53, .bool (!((rdD zT26 p1 x6329).Wrapped)))]) rfl ⟨(load1 tab rfl ((Bx.cell f8708.now 1).trans rfl)), trivial⟩ fun a hk => ?_
        refine wpListIn_nil ?_
        refine then_n ?_
        cases b9109 : (!((rdD zT26 p1 x6329).Wrapped))
        · rw [b9109] at hk H
          replace H := bifF H
          refine x_if hk (b := false) rfl ?_
          refine (show Code.wpIn _ _ _ _ _ _ _ from ?_)
          refine wpIn_skip ?_
          refine blk_n ?_
          refine then_n ?_
          exact ⟨o9092, A9093, c9094, l9095, A9098, c9099, l9100, A9103, c9104, l9105, (some ad8698), c6326, (by exact Kn.pick (ks := [0, 5, 13, 14, 15]) hk rfl), hs, f9096, f9101, f9106, f6327, f900019, fg2, hc9097, hc9102, hc9107, hc6328, H⟩
        · rw [b9109] at hk H
          replace H := bifT H
          refine x_if hk (b := true) rfl ?_
          refine (show Code.wpIn _ _ _ _ _ _ _ from ?_)
          refine x_seq ?_
          refine wpIn_region_lit ?_
          refine x_run tab hk (k := 5) (lv := [.slice A9103 (l9105).length c9104]) (ks := [0, 5, 13, 14, 15, 54, 58]) (e' := [(0, .pointer (some ⟨bp0, 0, none⟩)), (5, .int .i64 ((p0.l).length : Int)), (13, .slice (some ad8698) (p1).length c6326), (14, .int .i64 ((p1).length : Int)), (15, .int .i64 x6329), (54, .pointer (some ⟨bp0, 0, none⟩)), (58, .slice A9103 (l9105).length c9104)]) rfl ⟨(load1 tab rfl ((Bx.cell f900019.now 2).trans rfl)), trivial⟩ fun a hk => ?_
          refine x_op hk rfl ?_
          obtain ⟨t9113, hc9114, H⟩ := bindS H
          refine op_call hk ent_35 (vs := [.pointer (some ⟨bp0, 0, none⟩), .slice A9103 (l9105).length c9104]) rfl (book_Book_close_calls K bp0 A9093 c9094 A9098 c9099 A9103 c9104 (⟨l9095, l9100, l9105⟩ : T75) A9103 c9104 l9105 _ o9092 1 0 fg2 2 f900019 3 f9096 hc9097 4 f9101 hc9102 5 f9106 hc9107 (f9106.imp fun _ h_ => Own.rd h_) hc9107 (by decide) (by decide)   _ hc9114) ?_
          rintro _ w9115 ⟨o9116, A9119, c9120, A9123, c9124, A9127, c9128, rfl, st9117, f9118, f9121, hc9122, f9125, hc9126, f9129, hc9130⟩
          replace f6327 := f6327.st st9117 (by decide)
          replace f9106 := f9106.st st9117 (by decide)
          replace fg2 := fg2.st st9117 (by decide)
          replace hs := hs.locQ st9117 hob rfl
          have hk := hk.put 59 (.tuple #[]) rfl
          refine wpListIn_nil ?_
          refine then_n ?_
          refine wpIn_region_lit ?_
          refine x_run tab hk (k := 3) (lv := []) (ks := [0, 5, 13, 14, 15, 62]) (e' := [(0, .pointer (some ⟨bp0, 0, none⟩)), (5, .int .i64 ((p0.l).length : Int)), (13, .slice (some ad8698) (p1).length c6326), (14, .int .i64 ((p1).length : Int)), (15, .int .i64 x6329), (62, .pointer (some ((⟨bp0, 0, none⟩ : Addr).add 2)))]) rfl trivial fun a hk => ?_
          refine x_op hk rfl ?_
          refine op_store tab hk (t := 40) (v := .slice none 0 0) (b := bp0) (k := 2) (cs' := [.slice A9119 (t9113.l).length c9120, .slice A9123 (t9113.chains).length c9124, .slice none 0 0]) rfl rfl rfl rfl rfl rfl f9118 rfl rfl fun w9131 o9132 st9133 f9118_ => ?_
          replace f6327 := f6327.st st9133 (by decide)
          replace f9121 := f9121.st st9133 (by decide)
          replace f9125 := f9125.st st9133 (by decide)
          replace f9129 := f9129.st st9133 (by decide)
          replace fg2 := fg2.st st9133 (by decide)
          replace hs := hs.locQ st9133 hob rfl
          replace f9118 := f9118_
          refine wpListIn_nil ?_
          refine blk_n ?_
          refine then_n ?_
          exact ⟨o9132, A9119, c9120, t9113.l, A9123, c9124, t9113.chains, none, 0, ([] : List T49), (some ad8698), c6326, (by exact Kn.pick (ks := [0, 5, 13, 14, 15]) hk rfl), hs, f9121, f9125, (Ft.of_all (fun _ => Own.nil _ _ _) _ _ _), f6327, f9118, fg2, hc9122, hc9126, (by simp), hc6328, H⟩
      refine wpIn_block ?_
      refine x_loop (fun j_ a_ w_ => ∃ o9186 : Nat → Nat, ∃ A9187 : Option Addr, ∃ c9188 : Nat, ∃ l9189 : List (List T49), ∃ A9192 : Option Addr, ∃ c9193 : Nat, ∃ l9194 : List Int, ∃ A9197 : Option Addr, ∃ c9198 : Nat, ∃ l9199 : List T49, Kn 71 a_ [(0, .pointer (some ⟨bp0, 0, none⟩)), (5, .int .i64 ((p0.l).length : Int)), (7, .pointer (some ⟨bx8707, 0, none⟩)), (13, .slice (some ad8698) (p1).length c6326), (14, .int .i64 ((p1).length : Int)), (15, .int .i64 x6329)] ∧ St [2, 3, 4, 5] w oi w_ o9186 ∧ NRd dT26 (some ad8698) p1 w_ o9186 0 1 ∧ Ft (RdC ET82 A8699 ((rdD zT26 p1 x6329).Cells)) w_ o9186 1 ∧ Ft (Bx bx8707 27 [.slice A8699 ((rdD zT26 p1 x6329).Cells).length c8700, .bool ((rdD zT26 p1 x6329).Wrapped)]) w_ o9186 378 ∧ Ft (Bx bp0 76 [.slice A9187 (l9189).length c9188, .slice A9192 (l9194).length c9193, .slice A9197 (l9199).length c9198]) w_ o9186 2 ∧ NOwn (dRows ET49) 40 A9187 c9188 l9189 w_ o9186 3 1 ∧ Ft (Own (encInt .i64) 3 (.slice A9192 (l9194).length c9193) l9194) w_ o9186 4 ∧ Ft (Own ET49 50 (.slice A9197 (l9199).length c9198) l9199) w_ o9186 5 ∧ Ft (RdC (encInt .u32) (some ⟨2, 0, none⟩) glob2) w_ o9186 0 ∧ (l9189).length ≤ c9188 ∧ (l9194).length ≤ c9193 ∧ (l9199).length ≤ c9198 ∧ book_Book_Add_l6 K p1 x6329 lp7892 j_ l9189 l9194 l9199 = some r) (k := K) ⟨(fun b_ => (fun l_ => if l_ = 369 then 378 else l_) (o8895 b_)), A6310, c6311, l6312, A6315, c6316, l6317, A8896, c8897, l8898, (by exact Kn.pick (ks := [0, 5, 7, 13, 14, 15]) hk rfl), (hs.relabM hob (fun l_ => if l_ = 369 then 378 else l_) (by decide)), (f6327.relab (fun l_ => if l_ = 369 then 378 else l_) rfl), (f8702.relab (fun l_ => if l_ = 369 then 378 else l_) rfl), (f8708.relab (fun l_ => if l_ = 369 then 378 else l_) rfl), (f900019.relab (fun l_ => if l_ = 369 then 378 else l_) rfl), (f6313.relab (fun l_ => if l_ = 369 then 378 else l_) rfl), (f6318.relab (fun l_ => if l_ = 369 then 378 else l_) rfl), (f8899.relab (fun l_ => if l_ = 369 then 378 else l_) rfl), (fg2.relab (fun l_ => if l_ = 369 then 378 else l_) rfl), hc6314, hc6319, hc8900, H⟩ (by rintro _ _ ⟨_, _, _, _, _, _, _, _, _, _, _, _, _, _, _, _, _, _, _, _, _, _, _, H_⟩; exact absurd (show (none : Option (Int × T75)) = some r from H_) (by simp)) ?_
      rintro k9252 a w9251 ⟨o9186, A9187, c9188, l9189, A9192, c9193, l9194, A9197, c9198, l9199, hk, hs, f6327, f8702, f8708, f900019, f9190, f9195, f9200, fg2, hc9191, hc9196, hc9201, H⟩
      rw [book_Book_Add_l6] at H
      obtain ⟨lp9253, hlp9254⟩ : ∃ lp_, lp_ = book_Book_Add_l6 K p1 x6329 lp7892 k9252 := ⟨_, rfl⟩
      rw [← hlp9254] at H
      refine x_seq ?_
      refine x_seq ?_
      refine wpIn_region_lit ?_
      refine x_run tab hk (k := 6) (lv := [.slice A9197 (l9199).length c9198]) (ks := [0, 5, 7, 13, 14, 15, 34]) (e' := [(0, .pointer (some ⟨bp0, 0, none⟩)), (5, .int .i64 ((p0.l).length : Int)), (7, .pointer (some ⟨bx8707, 0, none⟩)), (13, .slice (some ad8698) (p1).length c6326), (14, .int .i64 ((p1).length : Int)), (15, .int .i64 x6329), (34, .bool (decide (((l9199).length : Int) ≥ (1024 : Int))))]) rfl ⟨(load1 tab rfl ((Bx.cell f900019.now 2).trans rfl)), trivial⟩ fun a hk => ?_
      refine wpListIn_nil ?_
      refine then_n ?_
      cases b9255 : (decide (((l9199).length : Int) ≥ (1024 : Int)))
      · rw [b9255] at hk H
        replace H := bifF H
        refine x_if hk (b := false) rfl ?_
        refine (show Code.wpIn _ _ _ _ _ _ _ from ?_)
        refine wpIn_exit ?_
        refine then_x ?_
        refine then_x ?_
        refine blk_x ?_
        refine then_n ?_
        exact ⟨(fun b_ => (fun l_ => if l_ = 378 then 375 else l_) (o9186 b_)), A9187, c9188, l9189, A9192, c9193, l9194, A9197, c9198, l9199, (by exact Kn.pick (ks := [0, 5, 7, 13, 14, 15]) hk rfl), (hs.relabM hob (fun l_ => if l_ = 378 then 375 else l_) (by decide)), (f6327.relab (fun l_ => if l_ = 378 then 375 else l_) rfl), (f8702.relab (fun l_ => if l_ = 378 then 375 else l_) rfl), (f8708.relab (fun l_ => if l_ = 378 then 375 else l_) rfl), (f900019.relab (fun l_ => if l_ = 378 then 375 else l_) rfl), (f9190.relab (fun l_ => if l_ = 378 then 375 else l_) rfl), (f9195.relab (fun l_ => if l_ = 378 then 375 else l_) rfl), (f9200.relab (fun l_ => if l_ = 378 then 375 else l_) rfl), (fg2.relab (fun l_ => if l_ = 378 then 375 else l_) rfl), hc9191, hc9196, hc9201, H⟩
      · rw [b9255] at hk H
        replace H := bifT H
        refine x_if hk (b := true) rfl ?_
        refine (show Code.wpIn _ _ _ _ _ _ _ from ?_)
        refine wpIn_skip ?_
        refine then_n ?_
        refine wpIn_block ?_
        refine x_seq ?_
        refine wpIn_region_lit ?_
        obtain ⟨q9256, H⟩ := ifS H
        obtain ⟨A9257, c9258, ak9260, f9259, hc9261⟩ := ask_take (P := Tryd.prog) tab (t := 40) rfl rfl f9200 hc9201 (k := .i64) 1024 (show 0 ≤ (1024 : Int) from by decide) q9256
        refine x_run tab hk (k := 6) (lv := [.slice A9197 (l9199).length c9198, .slice A9257 ((List.take (Int.toNat 1024) l9199)).length c9258]) (ks := [0, 5, 7, 13, 14, 15, 35, 40]) (e' := [(0, .pointer (some ⟨bp0, 0, none⟩)), (5, .int .i64 ((p0.l).length : Int)), (7, .pointer (some ⟨bx8707, 0, none⟩)), (13, .slice (some ad8698) (p1).length c6326), (14, .int .i64 ((p1).length : Int)), (15, .int .i64 x6329), (35, .pointer (some ⟨bp0, 0, none⟩)), (40, .slice A9257 ((List.take (Int.toNat 1024) l9199)).length c9258)]) rfl ⟨(load1 tab rfl ((Bx.cell f900019.now 2).trans rfl)), (ak9260 rfl rfl _), trivial⟩ fun a hk => ?_
        refine x_op hk rfl ?_
        obtain ⟨t9265, hc9266, H⟩ := bindS H
        refine op_call hk ent_35 (vs := [.pointer (some ⟨bp0, 0, none⟩), .slice A9257 ((List.take (Int.toNat 1024) l9199)).length c9258]) rfl (book_Book_close_calls K bp0 A9187 c9188 A9192 c9193 A9197 c9198 (⟨l9189, l9194, l9199⟩ : T75) A9257 c9258 (List.take (Int.toNat 1024) l9199) _ o9186 1 0 fg2 2 f900019 3 f9190 hc9191 4 f9195 hc9196 5 f9200 hc9201 (f9259.imp fun _ h_ => Own.rd h_) hc9261 (by decide) (by decide)   _ hc9266) ?_
        rintro _ w9267 ⟨o9268, A9271, c9272, A9275, c9276, A9279, c9280, rfl, st9269, f9270, f9273, hc9274, f9277, hc9278, f9281, hc9282⟩
        replace f6327 := f6327.st st9269 (by decide)
        replace f8702 := f8702.st st9269 (by decide)
        replace f8708 := f8708.st st9269 (by decide)
        replace f9200 := f9200.st st9269 (by decide)
        replace f9259 := f9259.st st9269 (by decide)
        replace fg2 := fg2.st st9269 (by decide)
        replace hs := hs.locQ st9269 hob rfl
        have hk := hk.put 41 (.tuple #[]) rfl
        refine wpListIn_nil ?_
        refine then_n ?_
        refine wpIn_region_lit ?_
        obtain ⟨q9283, H⟩ := ifS H
        obtain ⟨A9284, c9285, ak9287, f9286, hc9288⟩ := ask_cut (P := Tryd.prog) tab (t := 40) rfl rfl (f9281.imp fun _ h_ => Own.rd h_) hc9282 (some (.int .i64 1024)) none rfl ⟨(show 0 ≤ (1024 : Int) from by decide), (by have := q9283; omega), trivial⟩ (by have := (show 0 ≤ (1024 : Int) from by decide); have := q9283; omega) (Nat.le_refl _)
        refine x_run tab hk (k := 6) (lv := [.slice A9279 (t9265.begun).length c9280, .slice A9284 ((List.drop (Int.toNat 1024) (List.take (t9265.begun).length t9265.begun))).length c9285]) (ks := [0, 5, 7, 13, 14, 15, 42, 47]) (e' := [(0, .pointer (some ⟨bp0, 0, none⟩)), (5, .int .i64 ((p0.l).length : Int)), (7, .pointer (some ⟨bx8707, 0, none⟩)), (13, .slice (some ad8698) (p1).length c6326), (14, .int .i64 ((p1).length : Int)), (15, .int .i64 x6329), (42, .pointer (some ⟨bp0, 0, none⟩)), (47, .slice A9284 ((List.drop (Int.toNat 1024) (List.take (t9265.begun).length t9265.begun))).length c9285)]) rfl ⟨(load1 tab rfl ((Bx.cell f9270.now 2).trans rfl)), (ak9287 rfl rfl rfl _), trivial⟩ fun a hk => ?_
        refine x_op hk rfl ?_
        obtain ⟨t9292, hc9293, H⟩ := bindS H
        refine op_call hk ent_36 (vs := [.slice A9284 ((List.drop (Int.toNat 1024) (List.take (t9265.begun).length t9265.begun))).length c9285]) rfl (slices_Clone'_calls A9284 c9285 (List.drop (Int.toNat 1024) (List.take (t9265.begun).length t9265.begun)) _ o9268 _ f9286 hc9288 380  _ hc9293) ?_
        rintro _ w9294 ⟨o9295, A9297, c9298, rfl, st9296, f9299, hc9300⟩
        replace f6327 := f6327.st st9296 (by decide)
        replace f8702 := f8702.st st9296 (by decide)
        replace f8708 := f8708.st st9296 (by decide)
        replace f9270 := f9270.st st9296 (by decide)
        replace f9273 := f9273.st st9296 (by decide)
        replace f9277 := f9277.st st9296 (by decide)
        replace f9281 := f9281.st st9296 (by decide)
        replace f9286 := f9286.st st9296 (by decide)
        replace fg2 := fg2.st st9296 (by decide)
        replace hs := hs.locQ st9296 hob rfl
        have hk := hk.put 48 (.slice A9297 (t9292).length c9298) rfl
        refine x_run tab hk (k := 2) (lv := []) (ks := [0, 5, 7, 13, 14, 15, 48, 50]) (e' := [(0, .pointer (some ⟨bp0, 0, none⟩)), (5, .int .i64 ((p0.l).length : Int)), (7, .pointer (some ⟨bx8707, 0, none⟩)), (13, .slice (some ad8698) (p1).length c6326), (14, .int .i64 ((p1).length : Int)), (15, .int .i64 x6329), (48, .slice A9297 (t9292).length c9298), (50, .pointer (some ((⟨bp0, 0, none⟩ : Addr).add 2)))]) rfl trivial fun a hk => ?_
        refine x_op hk rfl ?_
        refine op_store tab hk (t := 40) (v := .slice A9297 (t9292).length c9298) (b := bp0) (k := 2) (cs' := [.slice A9271 (t9265.l).length c9272, .slice A9275 (t9265.chains).length c9276, .slice A9297 (t9292).length c9298]) rfl rfl rfl rfl rfl rfl f9270 rfl rfl fun w9301 o9302 st9303 f9270_ => ?_
        replace f6327 := f6327.st st9303 (by decide)
        replace f8702 := f8702.st st9303 (by decide)
        replace f8708 := f8708.st st9303 (by decide)
        replace f9273 := f9273.st st9303 (by decide)
        replace f9277 := f9277.st st9303 (by decide)
        replace f9281 := f9281.st st9303 (by decide)
        replace f9299 := f9299.st st9303 (by decide)
        replace fg2 := fg2.st st9303 (by decide)
        replace hs := hs.locQ st9303 hob rfl
        replace f9270 := f9270_
        refine wpListIn_nil ?_
        refine blk_n ?_
        refine then_n ?_
        exact ⟨k9252, Nat.le_refl _, (fun b_ => (fun l_ => if l_ = 380 then 5 else l_) (o9302 b_)), A9271, c9272, t9265.l, A9275, c9276, t9265.chains, A9297, c9298, t9292, (by exact Kn.pick (ks := [0, 5, 7, 13, 14, 15]) hk rfl), (hs.relabM hob (fun l_ => if l_ = 380 then 5 else l_) (by decide)), (f6327.relab (fun l_ => if l_ = 380 then 5 else l_) rfl), (f8702.relab (fun l_ => if l_ = 380 then 5 else l_) rfl), (f8708.relab (fun l_ => if l_ = 380 then 5 else l_) rfl), (f9270.relab (fun l_ => if l_ = 380 then 5 else l_) rfl), (f9273.relab (fun l_ => if l_ = 380 then 5 else l_) rfl), (f9277.relab (fun l_ => if l_ = 380 then 5 else l_) rfl), (f9299.relab (fun l_ => if l_ = 380 then 5 else l_) rfl), (fg2.relab (fun l_ => if l_ = 380 then 5 else l_) rfl), hc9274, hc9278, hc9300, (hlp9254 ▸ H)⟩
    obtain ⟨t9330, hc9331, H⟩ := bindS H
    obtain ⟨q9342, H⟩ := ifS H
    refine xd_begin (o := o8710) (fun W_ => (Bx bx8707 27 [.slice A8699 ((rdD zT26 p1 x6329).Cells).length c8700, .bool ((rdD zT26 p1 x6329).Wrapped)]) W_ ∧ True) mixed rfl rfl fun w9390 st9391 => ?_
    replace f6313 := f6313.st st9391 (by decide)
    replace f6318 := f6318.st st9391 (by decide)
    replace f6323 := f6323.st st9391 (by decide)
    replace f6327 := f6327.st st9391 (by decide)
    replace f8702 := f8702.st st9391 (by decide)
    replace f8708 := f8708.st st9391 (by decide)
    replace f900019 := f900019.st st9391 (by decide)
    replace fg2 := fg2.st st9391 (by decide)
    replace hs := hs.locQ st9391 hob rfl
    refine xd_abs fun G hG => ?_
    have N9397 : ∀ (a_ : Act) (w_ : World), (∃ o9395 : Nat → Nat, Kn 71 a_ [(0, .pointer (some ⟨bp0, 0, none⟩)), (5, .int .i64 ((p0.l).length : Int)), (7, .pointer (some ⟨bx8707, 0, none⟩)), (13, .slice (some ad8698) (p1).length c6326), (14, .int .i64 ((p1).length : Int)), (15, .int .i64 x6329), (19, .pointer (some ⟨bp0, 0, none⟩)), (23, .slice A6320 (l6322).length c6321), (24, .agg #[.slice A8699 ((rdD zT26 p1 x6329).Cells).length c8700, .bool ((rdD zT26 p1 x6329).Wrapped)])] ∧ St [2, 3, 4, 5] w oi w_ o9395 ∧ NOwn (dRows ET49) 40 A6310 c6311 l6312 w_ o9395 3 1 ∧ Ft (Own (encInt .i64) 3 (.slice A6315 (l6317).length c6316) l6317) w_ o9395 4 ∧ Ft (Own ET49 50 (.slice A6320 (l6322).length c6321) l6322) w_ o9395 5 ∧ NRd dT26 (some ad8698) p1 w_ o9395 0 1 ∧ Ft (RdC ET82 A8699 ((rdD zT26 p1 x6329).Cells)) w_ o9395 1 ∧ Ft (Bx bx8707 27 [.slice A8699 ((rdD zT26 p1 x6329).Cells).length c8700, .bool ((rdD zT26 p1 x6329).Wrapped)]) w_ o9395 385 ∧ Ft (Bx bp0 76 [.slice A6310 (l6312).length c6311, .slice A6315 (l6317).length c6316, .slice A6320 (l6322).length c6321]) w_ o9395 2 ∧ Ft (RdC (encInt .u32) (some ⟨2, 0, none⟩) glob2) w_ o9395 0) → G 5 #[true, true, true, true, true, true, false, false, false, false, false] a_ w_ := by
      rintro a w9396 ⟨o9395, hk, hs, f6313, f6318, f6323, f6327, f8702, f8708, f900019, fg2⟩
      refine xd_of hG ?_
      refine xd_op hk (i := 6) (by kernel_rfl) rfl rfl ?_
      refine op_call hk ent_20 (vs := [.agg #[.slice A8699 ((rdD zT26 p1 x6329).Cells).length c8700, .bool ((rdD zT26 p1 x6329).Wrapped)]]) rfl (row_Row_Glyphs_calls K A8699 c8700 (rdD zT26 p1 x6329) _ o9395 _ f8702 hc8703 386  _ hc9331) ?_
      rintro _ w9401 ⟨o9402, A9404, c9405, rfl, st9403, f9406, hc9407⟩
      replace f6313 := f6313.st st9403 (by decide)
      replace f6318 := f6318.st st9403 (by decide)
      replace f6323 := f6323.st st9403 (by decide)
      replace f6327 := f6327.st st9403 (by decide)
      replace f8702 := f8702.st st9403 (by decide)
      replace f8708 := f8708.st st9403 (by decide)
      replace f900019 := f900019.st st9403 (by decide)
      replace fg2 := fg2.st st9403 (by decide)
      replace hs := hs.locQ st9403 hob rfl
      have hk := hk.put 25 (.slice A9404 (t9330).length c9405) rfl
      refine ⟨.inr ⟨f8708.now, trivial⟩, ?_⟩
      refine xd_op hk (i := 7) (by kernel_rfl) rfl rfl ?_
      refine op_append (o := o9402) (E := ET49) (xs := l6322) (ys := t9330) tab hk rfl rfl rfl rfl rfl rfl rfl f6323 (Own.rd f9406.now) q9342 fun A9411 c9412 w9408 o9409 st9410 f9413 hc9414 => ?_
      replace f6313 := f6313.st st9410 (by decide)
      replace f6318 := f6318.st st9410 (by decide)
      replace f6327 := f6327.st st9410 (by decide)
      replace f8702 := f8702.st st9410 (by decide)
      replace f8708 := f8708.st st9410 (by decide)
      replace f900019 := f900019.st st9410 (by decide)
      replace f9406 := f9406.st st9410 (by decide)
      replace fg2 := fg2.st st9410 (by decide)
      replace hs := hs.locQ st9410 hob rfl
      have hk := hk.put 26 (.slice A9411 ((l6322 ++ t9330)).length c9412) rfl
      refine ⟨.inr ⟨f8708.now, trivial⟩, ?_⟩
      refine xd_take tab hk (k := 1) (is := [8, 9]) (ls' := #[true, true, true, true, true, true, true, true, true, true, false]) (lv := []) (ks := [0, 5, 7, 13, 14, 15, 26, 28]) (e' := [(0, .pointer (some ⟨bp0, 0, none⟩)), (5, .int .i64 ((p0.l).length : Int)), (7, .pointer (some ⟨bx8707, 0, none⟩)), (13, .slice (some ad8698) (p1).length c6326), (14, .int .i64 ((p1).length : Int)), (15, .int .i64 x6329), (26, .slice A9411 ((l6322 ++ t9330)).length c9412), (28, .pointer (some ((⟨bp0, 0, none⟩ : Addr).add 2)))]) (by kernel_rfl) rfl rfl (by kernel_rfl) (np_then (np_then (np_blk (np_then (np_then (np_blk (np_then np_body))))))) ⟨f8708.now, trivial⟩ (fun W_ hS => trivial) fun a hk => ?_
      refine xd_op hk (i := 10) (by kernel_rfl) rfl rfl ?_
      refine op_store tab hk (t := 40) (v := .slice A9411 ((l6322 ++ t9330)).length c9412) (b := bp0) (k := 2) (cs' := [.slice A6310 (l6312).length c6311, .slice A6315 (l6317).length c6316, .slice A9411 ((l6322 ++ t9330)).length c9412]) rfl rfl rfl rfl rfl rfl f900019 rfl rfl fun w9415 o9416 st9417 f900019_ => ?_
      replace f6313 := f6313.st st9417 (by decide)
      replace f6318 := f6318.st st9417 (by decide)
      replace f6327 := f6327.st st9417 (by decide)
      replace f8702 := f8702.st st9417 (by decide)
      replace f8708 := f8708.st st9417 (by decide)
      replace f9406 := f9406.st st9417 (by decide)
      replace f9413 := f9413.st st9417 (by decide)
      replace fg2 := fg2.st st9417 (by decide)
      replace hs := hs.locQ st9417 hob rfl
      replace f900019 := f900019_
      refine ⟨.inr ⟨f8708.now, trivial⟩, ?_⟩
      refine xd_done (by kernel_rfl) ?_
      refine then_n ?_
      exact ⟨(fun b_ => (fun l_ => if l_ = 385 then 369 else l_) (o9416 b_)), A9411, c9412, (l6322 ++ t9330), (by exact Kn.pick (ks := [0, 5, 7, 13, 14, 15]) hk rfl), (hs.relabM hob (fun l_ => if l_ = 385 then 369 else l_) (by decide)), (f6313.relab (fun l_ => if l_ = 385 then 369 else l_) rfl), (f6318.relab (fun l_ => if l_ = 385 then 369 else l_) rfl), (f6327.relab (fun l_ => if l_ = 385 then 369 else l_) rfl), (f8702.relab (fun l_ => if l_ = 385 then 369 else l_) rfl), (f8708.relab (fun l_ => if l_ = 385 then 369 else l_) rfl), (f9413.relab (fun l_ => if l_ = 385 then 369 else l_) rfl), (f900019.relab (fun l_ => if l_ = 385 then 369 else l_) rfl), (fg2.relab (fun l_ => if l_ = 385 then 369 else l_) rfl), hc9414, H⟩
    have N9443 : ∀ (a_ : Act) (w_ : World), (∃ o9437 : Nat → Nat, ∃ A9438 : Option Addr, ∃ c9439 : Nat, Kn 71 a_ [(0, .pointer (some ⟨bp0, 0, none⟩)), (5, .int .i64 ((p0.l).length : Int)), (7, .pointer (some ⟨bx8707, 0, none⟩)), (13, .slice (some ad8698) (p1).length c6326), (14, .int .i64 ((p1).length : Int)), (15, .int .i64 x6329), (19, .pointer (some ⟨bp0, 0, none⟩)), (22, .pointer (some ((⟨bp0, 0, none⟩ : Addr).add 2))), (25, .slice A9438 (t9330).length c9439)] ∧ St [2, 3, 4, 5] w oi w_ o9437 ∧ NOwn (dRows ET49) 40 A6310 c6311 l6312 w_ o9437 3 1 ∧ Ft (Own (encInt .i64) 3 (.slice A6315 (l6317).length c6316) l6317) w_ o9437 4 ∧ Ft (Own ET49 50 (.slice A6320 (l6322).length c6321) l6322) w_ o9437 5 ∧ NRd dT26 (some ad8698) p1 w_ o9437 0 1 ∧ Ft (RdC ET82 A8699 ((rdD zT26 p1 x6329).Cells)) w_ o9437 1 ∧ Ft (Bx bx8707 27 [.slice A8699 ((rdD zT26 p1 x6329).Cells).length c8700, .bool ((rdD zT26 p1 x6329).Wrapped)]) w_ o9437 388 ∧ Ft (Bx bp0 76 [.slice A6310 (l6312).length c6311, .slice A6315 (l6317).length c6316, .slice A6320 (l6322).length c6321]) w_ o9437 2 ∧ Ft (Own ET49 50 (.slice A9438 (t9330).length c9439) t9330) w_ o9437 389 ∧ Ft (RdC (encInt .u32) (some ⟨2, 0, none⟩) glob2) w_ o9437 0 ∧ (t9330).length ≤ c9439) → G 5 #[true, true, true, true, false, true, true, false, false, false, false] a_ w_ := by
      rintro a w9442 ⟨o9437, A9438, c9439, hk, hs, f6313, f6318, f6323, f6327, f8702, f8708, f900019, f9440, fg2, hc9441⟩
      refine xd_of hG ?_
      refine xd_op hk (i := 4) (by kernel_rfl) rfl rfl ?_
      refine op_quiet tab hk (lv := [.slice A6320 (l6322).length c6321]) (v := .slice A6320 (l6322).length c6321) rfl ⟨(load1 tab rfl ((Bx.cell f900019.now 2).trans rfl)), trivial⟩ ?_
      have hk := hk.put 23 (.slice A6320 (l6322).length c6321) rfl
      refine ⟨.inr ⟨f8708.now, trivial⟩, ?_⟩
      refine xd_op hk (i := 7) (by kernel_rfl) rfl rfl ?_
      refine op_append (o := o9437) (E := ET49) (xs := l6322) (ys := t9330) tab hk rfl rfl rfl rfl rfl rfl rfl f6323 (Own.rd f9440.now) q9342 fun A9447 c9448 w9444 o9445 st9446 f9449 hc9450 => ?_
      replace f6313 := f6313.st st9446 (by decide)
      replace f6318 := f6318.st st9446 (by decide)
      replace f6327 := f6327.st st9446 (by decide)
      replace f8702 := f8702.st st9446 (by decide)
      replace f8708 := f8708.st st9446 (by decide)
      replace f900019 := f900019.st st9446 (by decide)
      replace f9440 := f9440.st st9446 (by decide)
      replace fg2 := fg2.st st9446 (by decide)
      replace hs := hs.locQ st9446 hob rfl
      have hk := hk.put 26 (.slice A9447 ((l6322 ++ t9330)).length c9448) rfl
      refine ⟨.inr ⟨f8708.now, trivial⟩, ?_⟩
      refine xd_take tab hk (k := 1) (is := [8, 9]) (ls' := #[true, true, true, true, true, true, true, true, true, true, false]) (lv := []) (ks := [0, 5, 7, 13, 14, 15, 26, 28]) (e' := [(0, .pointer (some ⟨bp0, 0, none⟩)), (5, .int .i64 ((p0.l).length : Int)), (7, .pointer (some ⟨bx8707, 0, none⟩)), (13, .slice (some ad8698) (p1).length c6326), (14, .int .i64 ((p1).length : Int)), (15, .int .i64 x6329), (26, .slice A9447 ((l6322 ++ t9330)).length c9448), (28, .pointer (some ((⟨bp0, 0, none⟩ : Addr).add 2)))]) (by kernel_rfl) rfl rfl (by kernel_rfl) (np_then (np_then (np_blk (np_then (np_then (np_blk (np_then np_body))))))) ⟨f8708.now, trivial⟩ (fun W_ hS => trivial) fun a hk => ?_
      refine xd_op hk (i := 10) (by kernel_rfl) rfl rfl ?_
      refine op_store tab hk (t := 40) (v := .slice A9447 ((l6322 ++ t9330)).length c9448) (b := bp0) (k := 2) (cs' := [.slice A6310 (l6312).length c6311, .slice A6315 (l6317).length c6316, .slice A9447 ((l6322 ++ t9330)).length c9448]) rfl rfl rfl rfl rfl rfl f900019 rfl rfl fun w9451 o9452 st9453 f900019_ => ?_
      replace f6313 := f6313.st st9453 (by decide)
      replace f6318 := f6318.st st9453 (by decide)
      replace f6327 := f6327.st st9453 (by decide)
      replace f8702 := f8702.st st9453 (by decide)
      replace f8708 := f8708.st st9453 (by decide)
      replace f9440 := f9440.st st9453 (by decide)
      replace f9449 := f9449.st st9453 (by decide)
      replace fg2 := fg2.st st9453 (by decide)
      replace hs := hs.locQ st9453 hob rfl
      replace f900019 := f900019_
      refine ⟨.inr ⟨f8708.now, trivial⟩, ?_⟩
      refine xd_done (by kernel_rfl) ?_
      refine then_n ?_
      exact ⟨(fun b_ => (fun l_ => if l_ = 388 then 369 else l_) (o9452 b_)), A9447, c9448, (l6322 ++ t9330), (by exact Kn.pick (ks := [0, 5, 7, 13, 14, 15]) hk rfl), (hs.relabM hob (fun l_ => if l_ = 388 then 369 else l_) (by decide)), (f6313.relab (fun l_ => if l_ = 388 then 369 else l_) rfl), (f6318.relab (fun l_ => if l_ = 388 then 369 else l_) rfl), (f6327.relab (fun l_ => if l_ = 388 then 369 else l_) rfl), (f8702.relab (fun l_ => if l_ = 388 then 369 else l_) rfl), (f8708.relab (fun l_ => if l_ = 388 then 369 else l_) rfl), (f9449.relab (fun l_ => if l_ = 388 then 369 else l_) rfl), (f900019.relab (fun l_ => if l_ = 388 then 369 else l_) rfl), (fg2.relab (fun l_ => if l_ = 388 then 369 else l_) rfl), hc9450, H⟩
    refine xd_of hG ?_
    refine xd_take tab hk (k := 6) (is := [0, 1, 2, 3, 5]) (ls' := #[true, true, true, true, false, true, false, false, false, false, false]) (lv := [.agg #[.slice A8699 ((rdD zT26 p1 x6329).Cells).length c8700, .bool ((rdD zT26 p1 x6329).Wrapped)]]) (ks := [0, 5, 7, 13, 14, 15, 19, 22, 24]) (e' := [(0, .pointer (some ⟨bp0, 0, none⟩)), (5, .int .i64 ((p0.l).length : Int)), (7, .pointer (some ⟨bx8707, 0, none⟩)), (13, .slice (some ad8698) (p1).length c6326), (14, .int .i64 ((p1).length : Int)), (15, .int .i64 x6329), (19, .pointer (some ⟨bp0, 0, none⟩)), (22, .pointer (some ((⟨bp0, 0, none⟩ : Addr).add 2))), (24, .agg #[.slice A8699 ((rdD zT26 p1 x6329).Cells).length c8700, .bool ((rdD zT26 p1 x6329).Wrapped)])]) (by kernel_rfl) rfl rfl (by kernel_rfl) (np_then (np_then (np_blk (np_then (np_then (np_blk (np_then np_body))))))) ⟨f8708.now, trivial⟩ (fun W_ hS => ⟨(load_box tab rfl rfl hS.1 (k := 0) rfl rfl), trivial⟩) fun a hk => ?_
    refine xd_each [4, 6] (by kernel_rfl) rfl ⟨?_, ?_, trivial⟩
    · refine xd_one hk rfl rfl ?_
      refine op_quiet tab hk (lv := [.slice A6320 (l6322).length c6321]) (v := .slice A6320 (l6322).length c6321) rfl ⟨(load1 tab rfl ((Bx.cell f900019.now 2).trans rfl)), trivial⟩ ?_
      have hk := hk.put 23 (.slice A6320 (l6322).length c6321) rfl
      refine ⟨.inr ⟨f8708.now, trivial⟩, ?_⟩
      exact xd_to hG rfl (N9397 _ _ ⟨(fun b_ => (fun l_ => if l_ = 358 then 385 else l_) (o8710 b_)), (by exact Kn.pick (ks := [0, 5, 7, 13, 14, 15, 19, 23, 24]) hk rfl), (hs.relabM hob (fun l_ => if l_ = 358 then 385 else l_) (by decide)), (f6313.relab (fun l_ => if l_ = 358 then 385 else l_) rfl), (f6318.relab (fun l_ => if l_ = 358 then 385 else l_) rfl), (f6323.relab (fun l_ => if l_ = 358 then 385 else l_) rfl), (f6327.relab (fun l_ => if l_ = 358 then 385 else l_) rfl), (f8702.relab (fun l_ => if l_ = 358 then 385 else l_) rfl), (f8708.relab (fun l_ => if l_ = 358 then 385 else l_) rfl), (f900019.relab (fun l_ => if l_ = 358 then 385 else l_) rfl), (fg2.relab (fun l_ => if l_ = 358 then 385 else l_) rfl)⟩)
    · refine xd_one hk rfl rfl ?_
      refine op_call hk ent_20 (vs := [.agg #[.slice A8699 ((rdD zT26 p1 x6329).Cells).length c8700, .bool ((rdD zT26 p1 x6329).Wrapped)]]) rfl (row_Row_Glyphs_calls K A8699 c8700 (rdD zT26 p1 x6329) _ o8710 _ f8702 hc8703 387  _ hc9331) ?_
      rintro _ w9421 ⟨o9422, A9424, c9425, rfl, st9423, f9426, hc9427⟩
      replace f6313 := f6313.st st9423 (by decide)
      replace f6318 := f6318.st st9423 (by decide)
      replace f6323 := f6323.st st9423 (by decide)
      replace f6327 := f6327.st st9423 (by decide)
      replace f8702 := f8702.st st9423 (by decide)
      replace f8708 := f8708.st st9423 (by decide)
      replace f900019 := f900019.st st9423 (by decide)
      replace fg2 := fg2.st st9423 (by decide)
      replace hs := hs.locQ st9423 hob rfl
      have hk := hk.put 25 (.slice A9424 (t9330).length c9425) rfl
      refine ⟨.inr ⟨f8708.now, trivial⟩, ?_⟩
      exact xd_to hG rfl (N9443 _ _ ⟨(fun b_ => (fun l_ => if l_ = 358 then 388 else if l_ = 387 then 389 else l_) (o9422 b_)), A9424, c9425, (by exact Kn.pick (ks := [0, 5, 7, 13, 14, 15, 19, 22, 25]) hk rfl), (hs.relabM hob (fun l_ => if l_ = 358 then 388 else if l_ = 387 then 389 else l_) (by decide)), (f6313.relab (fun l_ => if l_ = 358 then 388 else if l_ = 387 then 389 else l_) rfl), (f6318.relab (fun l_ => if l_ = 358 then 388 else if l_ = 387 then 389 else l_) rfl), (f6323.relab (fun l_ => if l_ = 358 then 388 else if l_ = 387 then 389 else l_) rfl), (f6327.relab (fun l_ => if l_ = 358 then 388 else if l_ = 387 then 389 else l_) rfl), (f8702.relab (fun l_ => if l_ = 358 then 388 else if l_ = 387 then 389 else l_) rfl), (f8708.relab (fun l_ => if l_ = 358 then 388 else if l_ = 387 then 389 else l_) rfl), (f900019.relab (fun l_ => if l_ = 358 then 388 else if l_ = 387 then 389 else l_) rfl), (f9426.relab (fun l_ => if l_ = 358 then 388 else if l_ = 387 then 389 else l_) rfl), (fg2.relab (fun l_ => if l_ = 358 then 388 else if l_ = 387 then 389 else l_) rfl), hc9427⟩)

/-! (*tidewrack/book.Book).Line -/
theorem book_Book_Line_calls (bp0 : Nat) (Ap0_0 : Option Addr) (cp0_0 : Nat) (Ap0_1 : Option Addr) (cp0_1 : Nat) (Ap0_2 : Option Addr) (cp0_2 : Nat) (p0 : T75) (p1 : Int) (w : World) (o : Nat → Nat) (LF : Nat) (Lp0 : Nat) (hp0 : Ft (Bx bp0 76 [.slice Ap0_0 (p0.l).length cp0_0, .slice Ap0_1 (p0.chains).length cp0_1, .slice Ap0_2 (p0.begun).length cp0_2]) w o Lp0) (Lp0_0 : Nat) (hp0_0 : NRd (dRows ET49) Ap0_0 p0.l w o Lp0_0 LF) (hcp0_0 : (p0.l).length ≤ cp0_0) (Lp0_1 : Nat) (hp0_1 : Ft (RdC (encInt .i64) Ap0_1 p0.chains) w o Lp0_1) (hcp0_1 : (p0.chains).length ≤ cp0_1) (Lp0_2 : Nat) (hp0_2 : Ft (RdC ET49 Ap0_2 p0.begun) w o Lp0_2) (hcp0_2 : (p0.begun).length ≤ cp0_2) (hd0 : ([LF] : List Nat).Nodup) (hd1 : Lp0_0 ∉ [LF]) (hd2 : Lp0_1 ∉ [LF]) (hd3 : Lp0_2 ∉ [LF]) (hd4 : Lp0 ∉ [LF]) (R0 : Nat) (r : (List T49) × Bool) (H : book_Book_Line p0 p1 = some r) :
    Calls Tryd.prog 17 #[.pointer (some ⟨bp0, 0, none⟩), .int .i64 p1] w (Ret fun v_ w' => ∃ o' : Nat → Nat, ∃ A0 : Option Addr, ∃ c0 : Nat, v_ = .tuple #[.slice A0 (r.1).length c0, .bool r.2] ∧ St [] w o w' o' ∧ Ft (Own ET49 50 (.slice A0 (r.1).length c0) (r.1)) w' o' R0 ∧ (r.1).length ≤ c0) := by
  refine x_enter (vs := [.pointer (some ⟨bp0, 0, none⟩), .int .i64 p1]) Tryd.func17 rfl rfl rfl fun a hk => ?_
  obtain ⟨oi, hs0, h0, h1, hob, hoz, hoa⟩ := St.startM2 w o (m := 1) hd0 rfl
  have hs := hs0 []
  have f900000 := hp0_0.conv (fun P_ => h0 P_ _ hd1) (fun _ h_ => h1 0 1 h_ rfl rfl)
  have f900001 := h0 _ _ hd2 hp0_1
  have f900002 := h0 _ _ hd3 hp0_2
  have f900019 := h0 _ _ hd4 hp0
  clear h0 h1 hs0
  rw [book_Book_Line] at H
  refine x_seq ?_
  refine wpIn_region_lit ?_
  refine x_run tab hk (k := 2) (lv := []) (ks := [0, 1]) (e' := [(0, .pointer (some ⟨bp0, 0, none⟩)), (1, .int .i64 p1)]) rfl trivial fun a hk => ?_
  refine wpListIn_nil ?_
  refine then_n ?_
  refine x_mid (fun a_ w_ => ∃ o16 : Nat → Nat, Kn 25 a_ [(0, .pointer (some ⟨bp0, 0, none⟩)), (1, .int .i64 p1)] ∧ St [] w oi w_ o16 ∧ NRd (dRows ET49) Ap0_0 p0.l w_ o16 0 1 ∧ Ft (RdC (encInt .i64) Ap0_1 p0.chains) w_ o16 0 ∧ Ft (RdC ET49 Ap0_2 p0.begun) w_ o16 0 ∧ Ft (Bx bp0 76 [.slice Ap0_0 (p0.l).length cp0_0, .slice Ap0_1 (p0.chains).length cp0_1, .slice Ap0_2 (p0.begun).length cp0_2]) w_ o16 0 ∧ book_Book_Line_j1 p0 p1 = some r) ?_ ?_
  rotate_left
  · rintro a w17 ⟨o16, hk, hs, f900000, f900001, f900002, f900019, H⟩
    rw [book_Book_Line_j1] at H
    refine x_seq ?_
    refine wpIn_region_lit ?_
    obtain ⟨q18, H⟩ := ifS H
    obtain ⟨ad19, hAad19⟩ := NRd.addr f900000 q18
    have hk_C := hk
    have f900000_C := f900000
    have f900001_C := f900001
    have f900002_C := f900002
    have f900019_C := f900019
    subst hAad19
    have hk := hk_C
    clear hk_C
    have f900000 := f900000_C
    clear f900000_C
    have f900001 := f900001_C
    clear f900001_C
    have f900002 := f900002_C
    clear f900002_C
    have f900019 := f900019_C
    clear f900019_C
    obtain ⟨A20, c21, f22, f23, hc24⟩ := NRd.row f900000 (P := Tryd.prog) tab (t := 40) rfl (i := p1) q18
    refine x_run tab hk (k := 7) (lv := [.slice (some ad19) (p0.l).length cp0_0, .slice A20 ((rdD [] p0.l p1)).length c21]) (ks := [23]) (e' := [(23, .slice A20 ((rdD [] p0.l p1)).length c21)]) rfl ⟨(load1 tab rfl ((Bx.cell f900019.now 0).trans rfl)), q18, f22.now, trivial⟩ fun a hk => ?_
    refine x_op hk rfl ?_
    obtain ⟨t28, hc29, H⟩ := bindS H
    refine op_call hk ent_36 (vs := [.slice A20 ((rdD [] p0.l p1)).length c21]) rfl (slices_Clone'_calls A20 c21 (rdD [] p0.l p1) _ o16 _ f23 hc24 2  _ hc29) ?_
    rintro _ w30 ⟨o31, A33, c34, rfl, st32, f35, hc36⟩
    replace f23 := f23.st st32 (by decide)
    replace f900000 := f900000.st st32 (by decide)
    replace f900001 := f900001.st st32 (by decide)
    replace f900002 := f900002.st st32 (by decide)
    replace f900019 := f900019.st st32 (by decide)
    replace hs := hs.locQ st32 hob rfl
    have hk := hk.put 24 (.slice A33 (t28).length c34) rfl
    refine x_run tab hk (k := 2) (lv := []) (ks := [4, 5]) (e' := [(4, .slice A33 (t28).length c34), (5, .bool true)]) rfl trivial fun a hk => ?_
    refine wpListIn_nil ?_
    refine then_n ?_
    refine wpIn_ret ?_
    obtain rfl := Option.some.inj H
    exact x_retG hk (rs := [.tmp 4, .tmp 5]) (vs := [.slice A33 (t28).length c34, .bool true]) rfl ⟨rfl, rfl, trivial⟩ ⟨fun b_ => if b_ < w.heap.size then o b_ else (fun l_ => if l_ = 1 then LF else if l_ = 2 then R0 else 0) (o31 b_), A33, c34, rfl, hs.closeF (Lm := []) (Sh := []) hoa rfl (fun l_ => if l_ = 1 then LF else if l_ = 2 then R0 else 0), hs.closeM_ft (o := o) (ρ := fun l_ => if l_ = 1 then LF else if l_ = 2 then R0 else 0) f35 (lab_none hob rfl) rfl, hc36⟩
  refine x_mid (fun a_ w_ => ∃ o44 : Nat → Nat, ∃ x45 : Bool, Kn 25 a_ [(0, .pointer (some ⟨bp0, 0, none⟩)), (1, .int .i64 p1), (16, .bool x45)] ∧ St [] w oi w_ o44 ∧ NRd (dRows ET49) Ap0_0 p0.l w_ o44 0 1 ∧ Ft (RdC (encInt .i64) Ap0_1 p0.chains) w_ o44 0 ∧ Ft (RdC ET49 Ap0_2 p0.begun) w_ o44 0 ∧ Ft (Bx bp0 76 [.slice Ap0_0 (p0.l).length cp0_0, .slice Ap0_1 (p0.chains).length cp0_1, .slice Ap0_2 (p0.begun).length cp0_2]) w_ o44 0 ∧ book_Book_Line_j2 p0 p1 x45 = some r) ?_ ?_
  rotate_left
  · rintro a w46 ⟨o44, x45, hk, hs, f900000, f900001, f900002, f900019, H⟩
    rw [book_Book_Line_j2] at H
    cases b47 : x45
    · rw [b47] at hk H
      replace H := bifF H
      refine x_if hk (b := false) rfl ?_
      refine (show Code.wpIn _ _ _ _ _ _ _ from ?_)
      refine wpIn_skip ?_
      refine then_n ?_
      exact ⟨o44, (by exact Kn.pick (ks := [0, 1]) hk rfl), hs, f900000, f900001, f900002, f900019, H⟩
    · rw [b47] at hk H
      replace H := bifT H
      refine x_if hk (b := true) rfl ?_
      refine (show Code.wpIn _ _ _ _ _ _ _ from ?_)
      refine x_seq ?_
      refine wpIn_region_lit ?_
      refine x_run tab hk (k := 2) (lv := []) (ks := [4, 5]) (e' := [(4, .slice none 0 0), (5, .bool false)]) rfl trivial fun a hk => ?_
      refine wpListIn_nil ?_
      refine then_n ?_
      refine wpIn_ret ?_
      refine then_r ?_
      obtain rfl := Option.some.inj H
      exact x_retG hk (rs := [.tmp 4, .tmp 5]) (vs := [.slice none 0 0, .bool false]) rfl ⟨rfl, rfl, trivial⟩ ⟨fun b_ => if b_ < w.heap.size then o b_ else (fun l_ => if l_ = 1 then LF else 0) (o44 b_), none, 0, rfl, hs.closeF (Lm := []) (Sh := []) hoa rfl (fun l_ => if l_ = 1 then LF else 0), (Ft.of_all (fun _ => Own.nil _ _ _) _ _ _), (by simp)⟩
  refine wpIn_region_lit ?_
  refine x_run tab hk (k := 3) (lv := []) (ks := [0, 1, 8]) (e' := [(0, .pointer (some ⟨bp0, 0, none⟩)), (1, .int .i64 p1), (8, .bool (decide (p1 < (0 : Int))))]) rfl trivial fun a hk => ?_
  cases b48 : (decide (p1 < (0 : Int)))
  · rw [b48] at hk H
    replace H := bifF H
    refine x_run tab hk (k := 8) (lv := [.slice Ap0_0 (p0.l).length cp0_0]) (ks := [0, 1, 16]) (e' := [(0, .pointer (some ⟨bp0, 0, none⟩)), (1, .int .i64 p1), (16, .bool (decide (p1 ≥ ((p0.l).length : Int))))]) rfl ⟨(load1 tab rfl ((Bx.cell f900019.now 0).trans rfl)), trivial⟩ fun a hk => ?_
    refine wpListIn_nil ?_
    refine then_n ?_
    exact ⟨oi, (decide (p1 ≥ ((p0.l).length : Int))), (by exact Kn.pick (ks := [0, 1, 16]) hk rfl), hs, f900000, f900001, f900002, f900019, H⟩
  · rw [b48] at hk H
    replace H := bifT H
    refine x_run tab hk (k := 8) (lv := []) (ks := [0, 1, 16]) (e' := [(0, .pointer (some ⟨bp0, 0, none⟩)), (1, .int .i64 p1), (16, .bool true)]) rfl trivial fun a hk => ?_
    refine wpListIn_nil ?_
    refine then_n ?_
    exact ⟨oi, true, (by exact Kn.pick (ks := [0, 1, 16]) hk rfl), hs, f900000, f900001, f900002, f900019, H⟩

/-! (*tidewrack/book.Book).Len -/
theorem book_Book_Len_calls (bp0 : Nat) (Ap0_0 : Option Addr) (cp0_0 : Nat) (Ap0_1 : Option Addr) (cp0_1 : Nat) (Ap0_2 : Option Addr) (cp0_2 : Nat) (p0 : T75) (w : World) (o : Nat → Nat) (LF : Nat) (Lp0 : Nat) (hp0 : Ft (Bx bp0 76 [.slice Ap0_0 (p0.l).length cp0_0, .slice Ap0_1 (p0.chains).length cp0_1, .slice Ap0_2 (p0.begun).length cp0_2]) w o Lp0) (Lp0_0 : Nat) (hp0_0 : NRd (dRows ET49) Ap0_0 p0.l w o Lp0_0 LF) (hcp0_0 : (p0.l).length ≤ cp0_0) (Lp0_1 : Nat) (hp0_1 : Ft (RdC (encInt .i64) Ap0_1 p0.chains) w o Lp0_1) (hcp0_1 : (p0.chains).length ≤ cp0_1) (Lp0_2 : Nat) (hp0_2 : Ft (RdC ET49 Ap0_2 p0.begun) w o Lp0_2) (hcp0_2 : (p0.begun).length ≤ cp0_2) (hd0 : ([LF] : List Nat).Nodup) (hd1 : Lp0_0 ∉ [LF]) (hd2 : Lp0_1 ∉ [LF]) (hd3 : Lp0_2 ∉ [LF]) (hd4 : Lp0 ∉ [LF]) (r : Int) (H : book_Book_Len p0 = some r) :
    Calls Tryd.prog 16 #[.pointer (some ⟨bp0, 0, none⟩)] w (Ret fun v_ w' => ∃ o' : Nat → Nat, v_ = .int .i64 r ∧ St [] w o w' o') := by
  refine x_enter (vs := [.pointer (some ⟨bp0, 0, none⟩)]) Tryd.func16 rfl rfl rfl fun a hk => ?_
  obtain ⟨oi, hs0, h0, h1, hob, hoz, hoa⟩ := St.startM2 w o (m := 1) hd0 rfl
  have hs := hs0 []
  have f900000 := hp0_0.conv (fun P_ => h0 P_ _ hd1) (fun _ h_ => h1 0 1 h_ rfl rfl)
  have f900001 := h0 _ _ hd2 hp0_1
  have f900002 := h0 _ _ hd3 hp0_2
  have f900019 := h0 _ _ hd4 hp0
  clear h0 h1 hs0
  rw [book_Book_Len] at H
  refine x_seq ?_
  refine wpIn_region_lit ?_
  refine x_run tab hk (k := 1) (lv := []) (ks := [0]) (e' := [(0, .pointer (some ⟨bp0, 0, none⟩))]) rfl trivial fun a hk => ?_
  refine wpListIn_nil ?_
  refine then_n ?_
  refine x_seq ?_
  refine wpIn_region_lit ?_
  refine x_run tab hk (k := 6) (lv := [.slice Ap0_0 (p0.l).length cp0_0]) (ks := [2]) (e' := [(2, .int .i64 ((p0.l).length : Int))]) rfl ⟨(load1 tab rfl ((Bx.cell f900019.now 0).trans rfl)), trivial⟩ fun a hk => ?_
  refine wpListIn_nil ?_
  refine then_n ?_
  refine wpIn_ret ?_
  obtain rfl := Option.some.inj H
  exact x_retG hk (rs := [.tmp 2]) (vs := [.int .i64 ((p0.l).length : Int)]) rfl ⟨rfl, trivial⟩ ⟨fun b_ => if b_ < w.heap.size then o b_ else (fun l_ => if l_ = 1 then LF else 0) (oi b_), rfl, hs.closeF (Lm := []) (Sh := []) hoa rfl (fun l_ => if l_ = 1 then LF else 0)⟩

/-! (*tidewrack/book.Book).Begun -/
theorem book_Book_Begun_calls (bp0 : Nat) (Ap0_0 : Option Addr) (cp0_0 : Nat) (Ap0_1 : Option Addr) (cp0_1 : Nat) (Ap0_2 : Option Addr) (cp0_2 : Nat) (p0 : T75) (w : World) (o : Nat → Nat) (LF : Nat) (Lp0 : Nat) (hp0 : Ft (Bx bp0 76 [.slice Ap0_0 (p0.l).length cp0_0, .slice Ap0_1 (p0.chains).length cp0_1, .slice Ap0_2 (p0.begun).length cp0_2]) w o Lp0) (Lp0_0 : Nat) (hp0_0 : NRd (dRows ET49) Ap0_0 p0.l w o Lp0_0 LF) (hcp0_0 : (p0.l).length ≤ cp0_0) (Lp0_1 : Nat) (hp0_1 : Ft (RdC (encInt .i64) Ap0_1 p0.chains) w o Lp0_1) (hcp0_1 : (p0.chains).length ≤ cp0_1) (Lp0_2 : Nat) (hp0_2 : Ft (RdC ET49 Ap0_2 p0.begun) w o Lp0_2) (hcp0_2 : (p0.begun).length ≤ cp0_2) (hd0 : ([LF] : List Nat).Nodup) (hd1 : Lp0_0 ∉ [LF]) (hd2 : Lp0_1 ∉ [LF]) (hd3 : Lp0_2 ∉ [LF]) (hd4 : Lp0 ∉ [LF]) (R0 : Nat) (r : List T49) (H : book_Book_Begun p0 = some r) :
    Calls Tryd.prog 15 #[.pointer (some ⟨bp0, 0, none⟩)] w (Ret fun v_ w' => ∃ o' : Nat → Nat, ∃ A0 : Option Addr, ∃ c0 : Nat, v_ = .slice A0 (r).length c0 ∧ St [] w o w' o' ∧ Ft (Own ET49 50 (.slice A0 (r).length c0) (r)) w' o' R0 ∧ (r).length ≤ c0) := by
  refine x_enter (vs := [.pointer (some ⟨bp0, 0, none⟩)]) Tryd.func15 rfl rfl rfl fun a hk => ?_
  obtain ⟨oi, hs0, h0, h1, hob, hoz, hoa⟩ := St.startM2 w o (m := 1) hd0 rfl
  have hs := hs0 []
  have f900000 := hp0_0.conv (fun P_ => h0 P_ _ hd1) (fun _ h_ => h1 0 1 h_ rfl rfl)
  have f900001 := h0 _ _ hd2 hp0_1
  have f900002 := h0 _ _ hd3 hp0_2
  have f900019 := h0 _ _ hd4 hp0
  clear h0 h1 hs0
  rw [book_Book_Begun] at H
  refine x_seq ?_
  refine wpIn_region_lit ?_
  refine x_run tab hk (k := 1) (lv := []) (ks := [0]) (e' := [(0, .pointer (some ⟨bp0, 0, none⟩))]) rfl trivial fun a hk => ?_
  refine wpListIn_nil ?_
  refine then_n ?_
  refine x_seq ?_
  refine wpIn_region_lit ?_
  refine x_run tab hk (k := 4) (lv := [.slice Ap0_2 (p0.begun).length cp0_2]) (ks := [6]) (e' := [(6, .slice Ap0_2 (p0.begun).length cp0_2)]) rfl ⟨(load1 tab rfl ((Bx.cell f900019.now 2).trans rfl)), trivial⟩ fun a hk => ?_
  refine x_op hk rfl ?_
  obtain ⟨t4, hc5, H⟩ := bindS H
  refine op_call hk ent_36 (vs := [.slice Ap0_2 (p0.begun).length cp0_2]) rfl (slices_Clone'_calls Ap0_2 cp0_2 p0.begun _ oi _ f900002 hcp0_2 2  _ hc5) ?_
  rintro _ w6 ⟨o7, A9, c10, rfl, st8, f11, hc12⟩
  replace f900000 := f900000.st st8 (by decide)
  replace f900001 := f900001.st st8 (by decide)
  replace f900002 := f900002.st st8 (by decide)
  replace f900019 := f900019.st st8 (by decide)
  replace hs := hs.locQ st8 hob rfl
  have hk := hk.put 7 (.slice A9 (t4).length c10) rfl
  refine x_run tab hk (k := 1) (lv := []) (ks := [2]) (e' := [(2, .slice A9 (t4).length c10)]) rfl trivial fun a hk => ?_
  refine wpListIn_nil ?_
  refine then_n ?_
  refine wpIn_ret ?_
  obtain rfl := Option.some.inj H
  exact x_retG hk (rs := [.tmp 2]) (vs := [.slice A9 (t4).length c10]) rfl ⟨rfl, trivial⟩ ⟨fun b_ => if b_ < w.heap.size then o b_ else (fun l_ => if l_ = 1 then LF else if l_ = 2 then R0 else 0) (o7 b_), A9, c10, rfl, hs.closeF (Lm := []) (Sh := []) hoa rfl (fun l_ => if l_ = 1 then LF else if l_ = 2 then R0 else 0), hs.closeM_ft (o := o) (ρ := fun l_ => if l_ = 1 then LF else if l_ = 2 then R0 else 0) f11 (lab_none hob rfl) rfl, hc12⟩

/-! tidewrack/tidewracklaw12.awake -/
theorem tidewracklaw12_awake_calls (K : Nat)  (w : World) (o : Nat → Nat) (Lg0 : Nat) (hg0 : Ft (RdC ET111 (some ⟨0, 0, none⟩) glob0) w o Lg0) (Lg1 : Nat) (hg1 : Ft (RdC ET111 (some ⟨1, 0, none⟩) glob1) w o Lg1) (Lg2 : Nat) (hg2 : Ft (RdC (encInt .u32) (some ⟨2, 0, none⟩) glob2) w o Lg2)   (r : Bool) (H : tidewracklaw12_awake K = some r) :
    Calls Tryd.prog 9 #[] w (Ret fun v_ w' => ∃ o' : Nat → Nat, v_ = .bool r ∧ St [] w o w' o') := by
  refine x_enter (vs := []) Tryd.func9 rfl rfl rfl fun a hk => ?_
  obtain ⟨o0, hs, h0⟩ := St.start w o
  have fg0 := h0 _ _ hg0
  have fg1 := h0 _ _ hg1
  have fg2 := h0 _ _ hg2
  clear h0
  rw [tidewracklaw12_awake] at H
  refine x_seq ?_
  refine wpIn_region_lit ?_
  refine x_run tab hk (k := 1) (lv := []) (ks := []) (e' := []) rfl trivial fun a hk => ?_
  refine wpListIn_nil ?_
  refine then_n ?_
  refine x_seq ?_
  refine wpIn_region_lit ?_
  refine x_op hk rfl ?_
  obtain ⟨t4, hc5, H⟩ := bindS H
  refine op_call hk ent_10 (vs := []) rfl (book_New_calls  _ o0 1 (by decide) 2 3 4 5  _ hc5) ?_
  rintro _ w6 ⟨o7, bx9, A11, c12, A15, c16, A19, c20, rfl, st8, f10, f13, hc14, f17, hc18, f21, hc22⟩
  replace fg0 := fg0.st st8 (by decide)
  replace fg1 := fg1.st st8 (by decide)
  replace fg2 := fg2.st st8 (by decide)
  replace hs := hs.loc0 st8 (by decide)
  have hk := hk.put 6 (.pointer (some ⟨bx9, 0, none⟩)) rfl
  refine x_run tab hk (k := 1) (lv := []) (ks := [1]) (e' := [(1, .pointer (some ⟨bx9, 0, none⟩))]) rfl trivial fun a hk => ?_
  refine wpListIn_nil ?_
  refine then_n ?_
  refine x_seq ?_
  refine x_seq ?_
  refine wpIn_region_lit ?_
  refine x_run tab hk (k := 2) (lv := []) (ks := [1, 8]) (e' := [(1, .pointer (some ⟨bx9, 0, none⟩)), (8, .bool false)]) rfl trivial fun a hk => ?_
  refine wpListIn_nil ?_
  refine then_n ?_
  refine x_if hk (b := false) rfl ?_
  refine (show Code.wpIn _ _ _ _ _ _ _ from ?_)
  refine wpIn_skip ?_
  refine then_n ?_
  refine x_seq ?_
  refine wpIn_region_lit ?_
  refine x_op hk rfl ?_
  obtain ⟨t26, hc27, H⟩ := bindS H
  refine op_call hk ent_11 (vs := [.int .i64 2, .int .i64 0]) rfl (row_Blank_calls K 2 0 _ o7  6  _ hc27) ?_
  rintro _ w28 ⟨o29, A31, c32, rfl, st30, f33, hc34⟩
  replace f10 := f10.st st30 (by decide)
  replace f13 := f13.st st30 (by decide)
  replace f17 := f17.st st30 (by decide)
  replace f21 := f21.st st30 (by decide)
  replace fg0 := fg0.st st30 (by decide)
  replace fg1 := fg1.st st30 (by decide)
  replace fg2 := fg2.st st30 (by decide)
  replace hs := hs.loc0 st30 (by decide)
  have hk := hk.put 9 (.agg #[.slice A31 (t26.Cells).length c32, .bool t26.Wrapped]) rfl
  refine x_op hk rfl ?_
  obtain ⟨t38, hc39, H⟩ := bindS H
  refine op_call hk ent_32 (vs := [.agg #[.slice A31 (t26.Cells).length c32, .bool t26.Wrapped], .int .i64 0, .int .i32 97, .int .i64 0]) rfl (row_Row_Put_calls K A31 c32 t26 0 97 0 _ o29 0 fg0 0 fg1 _ (f33.imp fun _ h_ => Own.rd h_) hc34 7  _ hc39) ?_
  rintro _ w40 ⟨o41, A43, c44, rfl, st42, f45, hc46⟩
  replace f10 := f10.st st42 (by decide)
  replace f13 := f13.st st42 (by decide)
  replace f17 := f17.st st42 (by decide)
  replace f21 := f21.st st42 (by decide)
  replace f33 := f33.st st42 (by decide)
  replace fg0 := fg0.st st42 (by decide)
  replace fg1 := fg1.st st42 (by decide)
  replace fg2 := fg2.st st42 (by decide)
  replace hs := hs.loc0 st42 (by decide)
  have hk := hk.put 10 (.agg #[.slice A43 (t38.Cells).length c44, .bool t38.Wrapped]) rfl
  refine x_op hk rfl ?_
  obtain ⟨t50, hc51, H⟩ := bindS H
  refine op_call hk ent_32 (vs := [.agg #[.slice A43 (t38.Cells).length c44, .bool t38.Wrapped], .int .i64 1, .int .i32 98, .int .i64 0]) rfl (row_Row_Put_calls K A43 c44 t38 1 98 0 _ o41 0 fg0 0 fg1 _ (f45.imp fun _ h_ => Own.rd h_) hc46 8  _ hc51) ?_
  rintro _ w52 ⟨o53, A55, c56, rfl, st54, f57, hc58⟩
  replace f10 := f10.st st54 (by decide)
  replace f13 := f13.st st54 (by decide)
  replace f17 := f17.st st54 (by decide)
  replace f21 := f21.st st54 (by decide)
  replace f33 := f33.st st54 (by decide)
  replace f45 := f45.st st54 (by decide)
  replace fg0 := fg0.st st54 (by decide)
  replace fg1 := fg1.st st54 (by decide)
  replace fg2 := fg2.st st54 (by decide)
  replace hs := hs.loc0 st54 (by decide)
  have hk := hk.put 11 (.agg #[.slice A55 (t50.Cells).length c56, .bool t50.Wrapped]) rfl
  refine x_op hk rfl ?_
  refine op_alloc (o := o53) tab (t := 27) (cs := [.slice none 0 0, .bool false]) rfl rfl 9 fun bx62 w59 o60 st61 f63 => ?_
  replace f10 := f10.st st61 (by decide)
  replace f13 := f13.st st61 (by decide)
  replace f17 := f17.st st61 (by decide)
  replace f21 := f21.st st61 (by decide)
  replace f33 := f33.st st61 (by decide)
  replace f45 := f45.st st61 (by decide)
  replace f57 := f57.st st61 (by decide)
  replace fg0 := fg0.st st61 (by decide)
  replace fg1 := fg1.st st61 (by decide)
  replace fg2 := fg2.st st61 (by decide)
  replace hs := hs.loc0 st61 (by decide)
  have hk := hk.put 2 (.pointer (some ⟨bx62, 0, none⟩)) rfl
  refine x_op hk rfl ?_
  refine op_store tab hk (t := 27) (v := .agg #[.slice A55 (t50.Cells).length c56, .bool t50.Wrapped]) (b := bx62) (k := 0) (cs' := [.slice A55 (t50.Cells).length c56, .bool t50.Wrapped]) rfl rfl rfl rfl rfl rfl f63 rfl rfl fun w64 o65 st66 f63_ => ?_
  replace f10 := f10.st st66 (by decide)
  replace f13 := f13.st st66 (by decide)
  replace f17 := f17.st st66 (by decide)
  replace f21 := f21.st st66 (by decide)
  replace f33 := f33.st st66 (by decide)
  replace f45 := f45.st st66 (by decide)
  replace f57 := f57.st st66 (by decide)
  replace fg0 := fg0.st st66 (by decide)
  replace fg1 := fg1.st st66 (by decide)
  replace fg2 := fg2.st st66 (by decide)
  replace hs := hs.loc0 st66 (by decide)
  replace f63 := f63_
  refine wpListIn_nil ?_
  refine then_n ?_
  refine x_seq ?_
  refine wpIn_region_lit ?_
  refine x_run tab hk (k := 1) (lv := []) (ks := [1, 2, 12]) (e' := [(1, .pointer (some ⟨bx9, 0, none⟩)), (2, .pointer (some ⟨bx62, 0, none⟩)), (12, .pointer (some ((⟨bx62, 0, none⟩ : Addr).add 1)))]) rfl trivial fun a hk => ?_
  refine x_op hk rfl ?_
  refine op_store tab hk (t := 4) (v := .bool true) (b := bx62) (k := 1) (cs' := [.slice A55 (t50.Cells).length c56, .bool true]) rfl rfl rfl rfl rfl rfl f63 rfl rfl fun w67 o68 st69 f63_ => ?_
  replace f10 := f10.st st69 (by decide)
  replace f13 := f13.st st69 (by decide)
  replace f17 := f17.st st69 (by decide)
  replace f21 := f21.st st69 (by decide)
  replace f57 := f57.st st69 (by decide)
  replace fg0 := fg0.st st69 (by decide)
  replace fg1 := fg1.st st69 (by decide)
  replace fg2 := fg2.st st69 (by decide)
  replace hs := hs.loc0 st69 (by decide)
  replace f63 := f63_
  refine wpListIn_nil ?_
  refine then_n ?_
  refine x_seq ?_
  refine xd_begin (o := o68) (fun W_ => (Bx bx62 27 [.slice A55 (t50.Cells).length c56, .bool true]) W_ ∧ True) mixed rfl rfl fun w176 st177 => ?_
  replace f10 := f10.st st177 (by decide)
  replace f13 := f13.st st177 (by decide)
  replace f17 := f17.st st177 (by decide)
  replace f21 := f21.st st177 (by decide)
  replace f57 := f57.st st177 (by decide)
  replace f63 := f63.st st177 (by decide)
  replace fg0 := fg0.st st177 (by decide)
  replace fg1 := fg1.st st177 (by decide)
  replace fg2 := fg2.st st177 (by decide)
  replace hs := hs.loc0 st177 (by decide)
  refine xd_take tab hk (k := 5) (is := [0, 1, 4]) (ls' := #[true, true, false, false, true, false, false, false]) (lv := [.agg #[.slice A55 (t50.Cells).length c56, .bool true], .agg #[.slice A55 (t50.Cells).length c56, .bool true]]) (ks := [1, 13, 14, 17]) (e' := [(1, .pointer (some ⟨bx9, 0, none⟩)), (13, .pointer (some ⟨bx9, 0, none⟩)), (14, .agg #[.slice A55 (t50.Cells).length c56, .bool true]), (17, .agg #[.slice A55 (t50.Cells).length c56, .bool true])]) (by kernel_rfl) rfl rfl (by kernel_rfl) (np_then np_body) ⟨f63.now, trivial⟩ (fun W_ hS => ⟨(load_box tab rfl rfl hS.1 (k := 0) rfl rfl), (load_box tab rfl rfl hS.1 (k := 0) rfl rfl), trivial⟩) fun a hk => ?_
  refine xd_op hk (i := 2) (by kernel_rfl) rfl rfl ?_
  obtain ⟨t181, hc182, H⟩ := bindS H
  refine op_call hk ent_11 (vs := [.int .i64 2, .int .i64 0]) rfl (row_Blank_calls K 2 0 _ o68  16  _ hc182) ?_
  rintro _ w183 ⟨o184, A186, c187, rfl, st185, f188, hc189⟩
  replace f10 := f10.st st185 (by decide)
  replace f13 := f13.st st185 (by decide)
  replace f17 := f17.st st185 (by decide)
  replace f21 := f21.st st185 (by decide)
  replace f57 := f57.st st185 (by decide)
  replace f63 := f63.st st185 (by decide)
  replace fg0 := fg0.st st185 (by decide)
  replace fg1 := fg1.st st185 (by decide)
  replace fg2 := fg2.st st185 (by decide)
  replace hs := hs.loc0 st185 (by decide)
  have hk := hk.put 15 (.agg #[.slice A186 (t181.Cells).length c187, .bool t181.Wrapped]) rfl
  refine ⟨.inr ⟨f63.now, trivial⟩, ?_⟩
  refine xd_op hk (i := 3) (by kernel_rfl) rfl rfl ?_
  obtain ⟨t193, hc194, H⟩ := bindS H
  refine op_call hk ent_32 (vs := [.agg #[.slice A186 (t181.Cells).length c187, .bool t181.Wrapped], .int .i64 0, .int .i32 99, .int .i64 0]) rfl (row_Row_Put_calls K A186 c187 t181 0 99 0 _ o184 0 fg0 0 fg1 _ (f188.imp fun _ h_ => Own.rd h_) hc189 17  _ hc194) ?_
  rintro _ w195 ⟨o196, A198, c199, rfl, st197, f200, hc201⟩
  replace f10 := f10.st st197 (by decide)
  replace f13 := f13.st st197 (by decide)
  replace f17 := f17.st st197 (by decide)
  replace f188 := f188.st st197 (by decide)
  replace f21 := f21.st st197 (by decide)
  replace f57 := f57.st st197 (by decide)
  replace f63 := f63.st st197 (by decide)
  replace fg0 := fg0.st st197 (by decide)
  replace fg1 := fg1.st st197 (by decide)
  replace fg2 := fg2.st st197 (by decide)
  replace hs := hs.loc0 st197 (by decide)
  have hk := hk.put 16 (.agg #[.slice A198 (t193.Cells).length c199, .bool t193.Wrapped]) rfl
  refine ⟨.inr ⟨f63.now, trivial⟩, ?_⟩
  refine xd_op hk (i := 5) (by kernel_rfl) rfl rfl ?_
  obtain ⟨o205, hR206⟩ := relab_ex o196 (fun l_ => if l_ = 8 then 1 else if l_ = 17 then 1 else l_)
  replace hs : St [] w (fun _ => 0) w195 o205 := by rw [hR206]; exact (hs.relab0 (fun l_ => if l_ = 8 then 1 else if l_ = 17 then 1 else l_) rfl)
  replace f10 : Ft (Bx bx9 76 [.slice A11 (t4.l).length c12, .slice A15 (t4.chains).length c16, .slice A19 (t4.begun).length c20]) w195 o205 2 := by rw [hR206]; exact f10.relab (fun l_ => if l_ = 8 then 1 else if l_ = 17 then 1 else l_) rfl
  replace f13 : NOwn (dRows ET49) 40 A11 c12 t4.l w195 o205 3 1 := by rw [hR206]; exact f13.relab (fun l_ => if l_ = 8 then 1 else if l_ = 17 then 1 else l_) rfl
  replace f17 : Ft (Own (encInt .i64) 3 (.slice A15 (t4.chains).length c16) t4.chains) w195 o205 4 := by rw [hR206]; exact f17.relab (fun l_ => if l_ = 8 then 1 else if l_ = 17 then 1 else l_) rfl
  replace f188 : Ft (Own ET82 83 (.slice A186 (t181.Cells).length c187) t181.Cells) w195 o205 16 := by rw [hR206]; exact f188.relab (fun l_ => if l_ = 8 then 1 else if l_ = 17 then 1 else l_) rfl
  replace f200 : Ft (Own ET82 83 (.slice A198 (t193.Cells).length c199) t193.Cells) w195 o205 1 := by rw [hR206]; exact f200.relab (fun l_ => if l_ = 8 then 1 else if l_ = 17 then 1 else l_) rfl
  replace f21 : Ft (Own ET49 50 (.slice A19 (t4.begun).length c20) t4.begun) w195 o205 5 := by rw [hR206]; exact f21.relab (fun l_ => if l_ = 8 then 1 else if l_ = 17 then 1 else l_) rfl
  replace f57 : Ft (Own ET82 83 (.slice A55 (t50.Cells).length c56) t50.Cells) w195 o205 1 := by rw [hR206]; exact f57.relab (fun l_ => if l_ = 8 then 1 else if l_ = 17 then 1 else l_) rfl
  replace f63 : Ft (Bx bx62 27 [.slice A55 (t50.Cells).length c56, .bool true]) w195 o205 9 := by rw [hR206]; exact f63.relab (fun l_ => if l_ = 8 then 1 else if l_ = 17 then 1 else l_) rfl
  replace fg0 : Ft (RdC ET111 (some ⟨0, 0, none⟩) glob0) w195 o205 0 := by rw [hR206]; exact fg0.relab (fun l_ => if l_ = 8 then 1 else if l_ = 17 then 1 else l_) rfl
  replace fg1 : Ft (RdC ET111 (some ⟨1, 0, none⟩) glob1) w195 o205 0 := by rw [hR206]; exact fg1.relab (fun l_ => if l_ = 8 then 1 else if l_ = 17 then 1 else l_) rfl
  replace fg2 : Ft (RdC (encInt .u32) (some ⟨2, 0, none⟩) glob2) w195 o205 0 := by rw [hR206]; exact fg2.relab (fun l_ => if l_ = 8 then 1 else if l_ = 17 then 1 else l_) rfl
  refine op_slice (o := o205) tab hk (vs := [.agg #[.slice A55 (t50.Cells).length c56, .bool true], .agg #[.slice A198 (t193.Cells).length c199, .bool t193.Wrapped], .agg #[.slice A55 (t50.Cells).length c56, .bool true]]) (cs := [.slice A55 (t50.Cells).length c56, .bool true, .slice A198 (t193.Cells).length c199, .bool t193.Wrapped, .slice A55 (t50.Cells).length c56, .bool true]) rfl rfl rfl rfl rfl rfl rfl rfl rfl 18 fun bx207 w202 o203 st204 f208 => ?_
  replace f10 := f10.st st204 (by decide)
  replace f13 := f13.st st204 (by decide)
  replace f17 := f17.st st204 (by decide)
  replace f188 := f188.st st204 (by decide)
  replace f200 := f200.st st204 (by decide)
  replace f21 := f21.st st204 (by decide)
  replace f57 := f57.st st204 (by decide)
  replace f63 := f63.st st204 (by decide)
  replace fg0 := fg0.st st204 (by decide)
  replace fg1 := fg1.st st204 (by decide)
  replace fg2 := fg2.st st204 (by decide)
  replace hs := hs.loc0 st204 (by decide)
  have f209 : NOwn dT26 27 (some ⟨bx207, 0, none⟩) 3 ([(⟨t50.Cells, true⟩ : T26), t193, (⟨t50.Cells, true⟩ : T26)] : List T26) w202 o203 18 1 := NOwn.litD (D := dT26) f208 [(⟨(⟨t50.Cells, true⟩ : T26), A55, c56⟩ : NT26), (⟨t193, A198, c199⟩ : NT26), (⟨(⟨t50.Cells, true⟩ : T26), A55, c56⟩ : NT26)] rfl (Inn.consD (D := dT26) (r := (⟨(⟨t50.Cells, true⟩ : T26), A55, c56⟩ : NT26)) ((f57.imp fun _ h_ => Own.rd h_).imp fun _ h_ => ⟨h_, hc58⟩) (Inn.consD (D := dT26) (r := (⟨t193, A198, c199⟩ : NT26)) ((f200.imp fun _ h_ => Own.rd h_).imp fun _ h_ => ⟨h_, hc201⟩) (Inn.consD (D := dT26) (r := (⟨(⟨t50.Cells, true⟩ : T26), A55, c56⟩ : NT26)) ((f57.imp fun _ h_ => Own.rd h_).imp fun _ h_ => ⟨h_, hc58⟩) (Inn.nilD _ _ _ _)))) rfl (Nat.le_of_ble_eq_true rfl)
  have hk := hk.put 18 (.slice (some ⟨bx207, 0, none⟩) (([(⟨t50.Cells, true⟩ : T26), t193, (⟨t50.Cells, true⟩ : T26)] : List T26)).length 3) rfl
  refine ⟨.inr ⟨f63.now, trivial⟩, ?_⟩
  refine xd_op hk (i := 6) (by kernel_rfl) rfl rfl ?_
  obtain ⟨t213, hc214, H⟩ := bindS H
  refine op_call hk ent_12 (vs := [.pointer (some ⟨bx9, 0, none⟩), .slice (some ⟨bx207, 0, none⟩) (([(⟨t50.Cells, true⟩ : T26), t193, (⟨t50.Cells, true⟩ : T26)] : List T26)).length 3]) rfl (book_Book_Add_calls K bx9 A11 c12 A15 c16 A19 c20 t4 (some ⟨bx207, 0, none⟩) 3 ([(⟨t50.Cells, true⟩ : T26), t193, (⟨t50.Cells, true⟩ : T26)] : List T26) _ o203 1 0 fg2 2 f10 3 f13 hc14 4 f17 hc18 5 f21 hc22 _ f209.rd (Nat.le_refl _) (by decide) (by decide) (by decide)   _ hc214) ?_
  rintro _ w215 ⟨o216, A219, c220, A223, c224, A227, c228, rfl, st217, f218, f221, hc222, f225, hc226, f229, hc230⟩
  replace f188 := f188.st st217 (by decide)
  replace f200 := f200.st st217 (by decide)
  replace f209 := f209.st st217 (by decide)
  replace f57 := f57.st st217 (by decide)
  replace f63 := f63.st st217 (by decide)
  replace fg0 := fg0.st st217 (by decide)
  replace fg1 := fg1.st st217 (by decide)
  replace fg2 := fg2.st st217 (by decide)
  replace hs := hs.loc0 st217 (by decide)
  have hk := hk.put 19 (.int .i64 t213.1) rfl
  refine ⟨.inr ⟨f63.now, trivial⟩, ?_⟩
  refine xd_take tab hk (k := 0) (is := [7]) (ls' := #[true, true, true, true, true, true, true, true]) (lv := []) (ks := [1, 3]) (e' := [(1, .pointer (some ⟨bx9, 0, none⟩)), (3, .int .i64 t213.1)]) (by kernel_rfl) rfl rfl (by kernel_rfl) (np_then np_body) ⟨f63.now, trivial⟩ (fun W_ hS => trivial) fun a hk => ?_
  refine xd_done (by kernel_rfl) ?_
  refine then_n ?_
  refine x_seq ?_
  refine wpIn_region_lit ?_
  refine x_run tab hk (k := 1) (lv := []) (ks := [1, 3, 21]) (e' := [(1, .pointer (some ⟨bx9, 0, none⟩)), (3, .int .i64 t213.1), (21, .pointer (some ⟨bx9, 0, none⟩))]) rfl trivial fun a hk => ?_
  refine x_op hk rfl ?_
  obtain ⟨t234, hc235, H⟩ := bindS H
  refine op_call hk ent_17 (vs := [.pointer (some ⟨bx9, 0, none⟩), .int .i64 0]) rfl (book_Book_Line_calls bx9 A219 c220 A223 c224 A227 c228 t213.2 0 _ o216 1 2 f218 _ f221.rd hc222 _ (f225.imp fun _ h_ => Own.rd h_) hc226 _ (f229.imp fun _ h_ => Own.rd h_) hc230 (by decide) (by decide) (by decide) (by decide) (by decide) 19  _ hc235) ?_
  rintro _ w236 ⟨o237, A239, c240, rfl, st238, f241, hc242⟩
  replace f218 := f218.st st238 (by decide)
  replace f221 := f221.st st238 (by decide)
  replace f225 := f225.st st238 (by decide)
  replace f229 := f229.st st238 (by decide)
  replace fg0 := fg0.st st238 (by decide)
  replace fg1 := fg1.st st238 (by decide)
  replace fg2 := fg2.st st238 (by decide)
  replace hs := hs.loc0 st238 (by decide)
  have hk := hk.put 22 (.tuple #[.slice A239 (t234.1).length c240, .bool t234.2]) rfl
  refine x_run tab hk (k := 5) (lv := []) (ks := [1, 3, 4, 5]) (e' := [(1, .pointer (some ⟨bx9, 0, none⟩)), (3, .int .i64 t213.1), (4, .slice A239 (t234.1).length c240), (5, .bool t234.2)]) rfl trivial fun a hk => ?_
  refine wpListIn_nil ?_
  refine then_n ?_
  refine x_seq ?_
  refine wpIn_region_lit ?_
  refine x_run tab hk (k := 3) (lv := []) (ks := [1, 4, 5, 27]) (e' := [(1, .pointer (some ⟨bx9, 0, none⟩)), (4, .slice A239 (t234.1).length c240), (5, .bool t234.2), (27, .bool (t213.1 == (1 : Int)))]) rfl trivial fun a hk => ?_
  cases b243 : (t213.1 == (1 : Int))
  · rw [b243] at hk H
    replace H := bifF H
    refine x_run tab hk (k := 11) (lv := []) (ks := [1, 4, 35, 38]) (e' := [(1, .pointer (some ⟨bx9, 0, none⟩)), (4, .slice A239 (t234.1).length c240), (35, .bool false), (38, undef)]) rfl trivial fun a hk => ?_
    refine x_run tab hk (k := 13) (lv := []) (ks := [47, 51]) (e' := [(47, .bool false), (51, undef)]) rfl trivial fun a hk => ?_
    refine x_run tab hk (k := 8) (lv := []) (ks := [0]) (e' := [(0, .bool false)]) rfl trivial fun a hk => ?_
    refine wpListIn_nil ?_
    refine then_n ?_
    refine wpIn_ret ?_
    obtain rfl := Option.some.inj H
    exact x_retG hk (rs := [.tmp 0]) (vs := [.bool false]) rfl ⟨rfl, trivial⟩ ⟨fun b_ => if b_ < w.heap.size then o b_ else (fun _ => 0) (o237 b_), rfl, hs.close0 o (fun _ => 0)⟩
  · rw [b243] at hk H
    replace H := bifT H
    refine x_run tab hk (k := 1) (lv := []) (ks := [1, 4, 5, 27, 28]) (e' := [(1, .pointer (some ⟨bx9, 0, none⟩)), (4, .slice A239 (t234.1).length c240), (5, .bool t234.2), (27, .bool true), (28, .pointer (some ⟨bx9, 0, none⟩))]) rfl trivial fun a hk => ?_
    refine x_op hk rfl ?_
    obtain ⟨t247, hc248, H⟩ := bindS H
    refine op_call hk ent_16 (vs := [.pointer (some ⟨bx9, 0, none⟩)]) rfl (book_Book_Len_calls bx9 A219 c220 A223 c224 A227 c228 t213.2 _ o237 1 2 f218 _ f221.rd hc222 _ (f225.imp fun _ h_ => Own.rd h_) hc226 _ (f229.imp fun _ h_ => Own.rd h_) hc230 (by decide) (by decide) (by decide) (by decide) (by decide)   _ hc248) ?_
    rintro _ w249 ⟨o250, rfl, st251⟩
    replace f218 := f218.st st251 (by decide)
    replace f221 := f221.st st251 (by decide)
    replace f225 := f225.st st251 (by decide)
    replace f229 := f229.st st251 (by decide)
    replace f241 := f241.st st251 (by decide)
    replace fg0 := fg0.st st251 (by decide)
    replace fg1 := fg1.st st251 (by decide)
    replace fg2 := fg2.st st251 (by decide)
    replace hs := hs.loc0 st251 (by decide)
    have hk := hk.put 29 (.int .i64 t247) rfl
    refine x_run tab hk (k := 3) (lv := []) (ks := [1, 4, 5, 32]) (e' := [(1, .pointer (some ⟨bx9, 0, none⟩)), (4, .slice A239 (t234.1).length c240), (5, .bool t234.2), (32, .bool (t247 == (1 : Int)))]) rfl trivial fun a hk => ?_
    cases b252 : (t247 == (1 : Int))
    · rw [b252] at hk H
      replace H := bifF H
      refine x_run tab hk (k := 13) (lv := []) (ks := [1, 40, 45]) (e' := [(1, .pointer (some ⟨bx9, 0, none⟩)), (40, .bool false), (45, undef)]) rfl trivial fun a hk => ?_
      refine x_run tab hk (k := 12) (lv := []) (ks := [53, 57]) (e' := [(53, .bool false), (57, undef)]) rfl trivial fun a hk => ?_
      refine x_run tab hk (k := 2) (lv := []) (ks := [0]) (e' := [(0, .bool false)]) rfl trivial fun a hk => ?_
      refine wpListIn_nil ?_
      refine then_n ?_
      refine wpIn_ret ?_
      obtain rfl := Option.some.inj H
      exact x_retG hk (rs := [.tmp 0]) (vs := [.bool false]) rfl ⟨rfl, trivial⟩ ⟨fun b_ => if b_ < w.heap.size then o b_ else (fun _ => 0) (o250 b_), rfl, hs.close0 o (fun _ => 0)⟩
    · rw [b252] at hk H
      replace H := bifT H
      refine x_run tab hk (k := 3) (lv := []) (ks := [1, 4, 35]) (e' := [(1, .pointer (some ⟨bx9, 0, none⟩)), (4, .slice A239 (t234.1).length c240), (35, .bool t234.2)]) rfl trivial fun a hk => ?_
      cases b253 : t234.2
      · rw [b253] at hk H
        replace H := bifF H
        refine x_run tab hk (k := 10) (lv := []) (ks := [1, 40, 45]) (e' := [(1, .pointer (some ⟨bx9, 0, none⟩)), (40, .bool false), (45, undef)]) rfl trivial fun a hk => ?_
        refine x_run tab hk (k := 12) (lv := []) (ks := [53, 57]) (e' := [(53, .bool false), (57, undef)]) rfl trivial fun a hk => ?_
        refine x_run tab hk (k := 2) (lv := []) (ks := [0]) (e' := [(0, .bool false)]) rfl trivial fun a hk => ?_
        refine wpListIn_nil ?_
        refine then_n ?_
        refine wpIn_ret ?_
        obtain rfl := Option.some.inj H
        exact x_retG hk (rs := [.tmp 0]) (vs := [.bool false]) rfl ⟨rfl, trivial⟩ ⟨fun b_ => if b_ < w.heap.size then o b_ else (fun _ => 0) (o250 b_), rfl, hs.close0 o (fun _ => 0)⟩
      · rw [b253] at hk H
        replace H := bifT H
        refine x_run tab hk (k := 5) (lv := []) (ks := [1, 4, 40]) (e' := [(1, .pointer (some ⟨bx9, 0, none⟩)), (4, .slice A239 (t234.1).length c240), (40, .bool (((t234.1).length : Int) == (3 : Int)))]) rfl trivial fun a hk => ?_
        cases b254 : (((t234.1).length : Int) == (3 : Int))
        · rw [b254] at hk H
          replace H := bifF H
          refine x_run tab hk (k := 11) (lv := []) (ks := [47, 51]) (e' := [(47, .bool false), (51, undef)]) rfl trivial fun a hk => ?_
          refine x_run tab hk (k := 8) (lv := []) (ks := [0]) (e' := [(0, .bool false)]) rfl trivial fun a hk => ?_
          refine wpListIn_nil ?_
          refine then_n ?_
          refine wpIn_ret ?_
          obtain rfl := Option.some.inj H
          exact x_retG hk (rs := [.tmp 0]) (vs := [.bool false]) rfl ⟨rfl, trivial⟩ ⟨fun b_ => if b_ < w.heap.size then o b_ else (fun _ => 0) (o250 b_), rfl, hs.close0 o (fun _ => 0)⟩
        · rw [b254] at hk H
          replace H := bifT H
          obtain ⟨q255, H⟩ := ifS H
          obtain ⟨ad256, hAad256⟩ := RdC.addr (Own.rd f241.now) q255
          have hk_C := hk
          have f218_C := f218
          have f221_C := f221
          have f225_C := f225
          have f229_C := f229
          have f241_C := f241
          have fg0_C := fg0
          have fg1_C := fg1
          have fg2_C := fg2
          subst hAad256
          have hk := hk_C
          clear hk_C
          have f218 := f218_C
          clear f218_C
          have f221 := f221_C
          clear f221_C
          have f225 := f225_C
          clear f225_C
          have f229 := f229_C
          clear f229_C
          have f241 := f241_C
          clear f241_C
          have fg0 := fg0_C
          clear fg0_C
          have fg1 := fg1_C
          clear fg1_C
          have fg2 := fg2_C
          clear fg2_C
          refine x_run tab hk (k := 7) (lv := [.int .i32 ((rdD zT49 t234.1 2).Rune)]) (ks := [1, 47]) (e' := [(1, .pointer (some ⟨bx9, 0, none⟩)), (47, .bool (((rdD zT49 t234.1 2).Rune) == (99 : Int)))]) rfl ⟨q255, (load1 tab rfl (RdC.at (E := ET49) (d := zT49) (i := (2 : Int)) (j := 0) (Own.rd f241.now) q255 rfl)), trivial⟩ fun a hk => ?_
          cases b257 : (((rdD zT49 t234.1 2).Rune) == (99 : Int))
          · rw [b257] at hk H
            replace H := bifF H
            refine x_run tab hk (k := 10) (lv := []) (ks := [53, 57]) (e' := [(53, .bool false), (57, undef)]) rfl trivial fun a hk => ?_
            refine x_run tab hk (k := 2) (lv := []) (ks := [0]) (e' := [(0, .bool false)]) rfl trivial fun a hk => ?_
            refine wpListIn_nil ?_
            refine then_n ?_
            refine wpIn_ret ?_
            obtain rfl := Option.some.inj H
            exact x_retG hk (rs := [.tmp 0]) (vs := [.bool false]) rfl ⟨rfl, trivial⟩ ⟨fun b_ => if b_ < w.heap.size then o b_ else (fun _ => 0) (o250 b_), rfl, hs.close0 o (fun _ => 0)⟩
          · rw [b257] at hk H
            replace H := bifT H
            refine x_run tab hk (k := 1) (lv := []) (ks := [47, 48]) (e' := [(47, .bool true), (48, .pointer (some ⟨bx9, 0, none⟩))]) rfl trivial fun a hk => ?_
            refine x_op hk rfl ?_
            obtain ⟨t261, hc262, H⟩ := bindS H
            refine op_call hk ent_15 (vs := [.pointer (some ⟨bx9, 0, none⟩)]) rfl (book_Book_Begun_calls bx9 A219 c220 A223 c224 A227 c228 t213.2 _ o250 1 2 f218 _ f221.rd hc222 _ (f225.imp fun _ h_ => Own.rd h_) hc226 _ (f229.imp fun _ h_ => Own.rd h_) hc230 (by decide) (by decide) (by decide) (by decide) (by decide) 20  _ hc262) ?_
            rintro _ w263 ⟨o264, A266, c267, rfl, st265, f268, hc269⟩
            replace f218 := f218.st st265 (by decide)
            replace f221 := f221.st st265 (by decide)
            replace f225 := f225.st st265 (by decide)
            replace f229 := f229.st st265 (by decide)
            replace fg0 := fg0.st st265 (by decide)
            replace fg1 := fg1.st st265 (by decide)
            replace fg2 := fg2.st st265 (by decide)
            replace hs := hs.loc0 st265 (by decide)
            have hk := hk.put 49 (.slice A266 (t261).length c267) rfl
            refine x_run tab hk (k := 4) (lv := []) (ks := [53]) (e' := [(53, .bool (((t261).length : Int) == (2 : Int)))]) rfl trivial fun a hk => ?_
            cases b270 : (((t261).length : Int) == (2 : Int))
            · rw [b270] at hk H
              replace H := bifF H
              refine x_run tab hk (k := 6) (lv := []) (ks := [0]) (e' := [(0, .bool false)]) rfl trivial fun a hk => ?_
              refine wpListIn_nil ?_
              refine then_n ?_
              refine wpIn_ret ?_
              obtain rfl := Option.some.inj H
              exact x_retG hk (rs := [.tmp 0]) (vs := [.bool false]) rfl ⟨rfl, trivial⟩ ⟨fun b_ => if b_ < w.heap.size then o b_ else (fun _ => 0) (o264 b_), rfl, hs.close0 o (fun _ => 0)⟩
            · rw [b270] at hk H
              replace H := bifT H
              refine x_run tab hk (k := 1) (lv := []) (ks := [53, 54]) (e' := [(53, .bool true), (54, .agg #[.int .i32 97, .int .i64 5])]) rfl trivial fun a hk => ?_
              refine x_op hk rfl ?_
              refine op_slice (o := o264) tab hk (vs := [.agg #[.int .i32 97, .int .i64 5]]) (cs := [.int .i32 97, .int .i64 5]) rfl rfl rfl rfl rfl rfl rfl rfl rfl 21 fun bx274 w271 o272 st273 f275 => ?_
              replace fg0 := fg0.st st273 (by decide)
              replace fg1 := fg1.st st273 (by decide)
              replace fg2 := fg2.st st273 (by decide)
              replace hs := hs.loc0 st273 (by decide)
              have f276 : Ft (Own ET49 50 (.slice (some ⟨bx274, 0, none⟩) (([(⟨97, 5⟩ : T49)] : List T49)).length 1) ([(⟨97, 5⟩ : T49)] : List T49)) w271 o272 21 := f275.imp fun _ h_ => Own.of_box h_ rfl (by simp)
              have hk := hk.put 55 (.slice (some ⟨bx274, 0, none⟩) (([(⟨97, 5⟩ : T49)] : List T49)).length 1) rfl
              refine x_op hk rfl ?_
              obtain ⟨t280, hc281, H⟩ := bindS H
              refine op_call hk ent_29 (vs := [.slice (some ⟨bx274, 0, none⟩) (([(⟨97, 5⟩ : T49)] : List T49)).length 1]) rfl (book_Pack_calls K (some ⟨bx274, 0, none⟩) 1 ([(⟨97, 5⟩ : T49)] : List T49) _ o272 _ (f276.imp fun _ h_ => Own.rd h_) (Nat.le_refl _)   _ hc281) ?_
              rintro _ w282 ⟨o283, rfl, st284⟩
              replace f276 := f276.st st284 (by decide)
              replace fg0 := fg0.st st284 (by decide)
              replace fg1 := fg1.st st284 (by decide)
              replace fg2 := fg2.st st284 (by decide)
              replace hs := hs.loc0 st284 (by decide)
              have hk := hk.put 56 (.string t280) rfl
              refine x_run tab hk (k := 3) (lv := []) (ks := [0]) (e' := [(0, .bool (ByteArray.toList t280 == ByteArray.toList (⟨#[1, 97, 5]⟩ : ByteArray)))]) rfl trivial fun a hk => ?_
              refine wpListIn_nil ?_
              refine then_n ?_
              refine wpIn_ret ?_
              obtain rfl := Option.some.inj H
              exact x_retG hk (rs := [.tmp 0]) (vs := [.bool (ByteArray.toList t280 == ByteArray.toList (⟨#[1, 97, 5]⟩ : ByteArray))]) rfl ⟨rfl, trivial⟩ ⟨fun b_ => if b_ < w.heap.size then o b_ else (fun _ => 0) (o283 b_), rfl, hs.close0 o (fun _ => 0)⟩

/-! tidewrack/tidewracklaw09.Any -/
theorem tidewracklaw09_Any_calls (Ap0 : Option Addr) (cp0 : Nat) (p0 : List T82) (p1 : Bool) (w : World) (o : Nat → Nat) (Lp0 : Nat) (hp0 : Ft (RdC ET82 Ap0 p0) w o Lp0) (hcp0 : (p0).length ≤ cp0)  (R0 : Nat) (r : T26) (H : tidewracklaw09_Any p0 p1 = some r) :
    Calls Tryd.prog 38 #[.slice Ap0 (p0).length cp0, .bool p1] w (Ret fun v_ w' => ∃ o' : Nat → Nat, ∃ A0 : Option Addr, ∃ c0 : Nat, v_ = .agg #[.slice A0 (r.Cells).length c0, .bool r.Wrapped] ∧ St [] w o w' o' ∧ Ft (Own ET82 83 (.slice A0 (r.Cells).length c0) (r.Cells)) w' o' R0 ∧ (r.Cells).length ≤ c0) := by
  refine x_enter (vs := [.slice Ap0 (p0).length cp0, .bool p1]) Tryd.func38 rfl rfl rfl fun a hk => ?_
  obtain ⟨o0, hs, h0⟩ := St.start w o
  have f900000 := h0 _ _ hp0
  clear h0
  rw [tidewracklaw09_Any] at H
  refine x_seq ?_
  refine wpIn_region_lit ?_
  refine x_op hk rfl ?_
  refine op_alloc (o := o0) tab (t := 27) (cs := [.slice none 0 0, .bool false]) rfl rfl 1 fun bx4 w1 o2 st3 f5 => ?_
  replace f900000 := f900000.st st3 (by decide)
  replace hs := hs.loc0 st3 (by decide)
  have hk := hk.put 4 (.pointer (some ⟨bx4, 0, none⟩)) rfl
  refine wpListIn_nil ?_
  refine then_n ?_
  refine x_seq ?_
  refine wpIn_region_lit ?_
  refine x_op hk rfl ?_
  refine op_slice (o := o2) tab hk (vs := []) (cs := []) rfl rfl rfl rfl rfl rfl rfl rfl rfl 2 fun bx9 w6 o7 st8 f10 => ?_
  replace f5 := f5.st st8 (by decide)
  replace f900000 := f900000.st st8 (by decide)
  replace hs := hs.loc0 st8 (by decide)
  have f11 : Ft (Own ET82 83 (.slice (some ⟨bx9, 0, none⟩) (([] : List T82)).length 0) ([] : List T82)) w6 o7 2 := f10.imp fun _ h_ => Own.of_box h_ rfl (by simp)
  have hk := hk.put 5 (.slice (some ⟨bx9, 0, none⟩) (([] : List T82)).length 0) rfl
  obtain ⟨q12, H⟩ := ifS H
  obtain ⟨q13, H⟩ := ifS H
  obtain ⟨A14, c15, ak17, f16, hc18⟩ := ask_cut (P := Tryd.prog) tab (t := 25) rfl rfl f900000 hcp0 none (some (.int .i64 (mnI ((p0).length : Int) 40))) rfl ⟨q12, (by have := q13; have := hcp0; omega), trivial⟩ (by have := q12; have := q13; omega) (by have := q12; have := q13; omega)
  refine x_run tab hk (k := 5) (lv := [.slice A14 ((List.drop 0 (List.take (Int.toNat (mnI ((p0).length : Int) 40)) p0))).length c15]) (ks := [1, 4, 5, 10]) (e' := [(1, .bool p1), (4, .pointer (some ⟨bx4, 0, none⟩)), (5, .slice (some ⟨bx9, 0, none⟩) (([] : List T82)).length 0), (10, .slice A14 ((List.drop 0 (List.take (Int.toNat (mnI ((p0).length : Int) 40)) p0))).length c15)]) rfl ⟨(ak17 rfl rfl rfl _), trivial⟩ fun a hk => ?_
  refine x_op hk rfl ?_
  obtain ⟨q22, H⟩ := ifS H
  refine op_append (o := o7) (E := ET82) (xs := ([] : List T82)) (ys := (List.drop 0 (List.take (Int.toNat (mnI ((p0).length : Int) 40)) p0))) tab hk rfl rfl rfl rfl rfl rfl rfl f11 f16.now q22 fun A23 c24 w19 o20 st21 f25 hc26 => ?_
  replace f16 := f16.st st21 (by decide)
  replace f5 := f5.st st21 (by decide)
  replace hs := hs.loc0 st21 (by decide)
  have hk := hk.put 11 (.slice A23 ((([] : List T82) ++ (List.drop 0 (List.take (Int.toNat (mnI ((p0).length : Int) 40)) p0)))).length c24) rfl
  refine x_run tab hk (k := 2) (lv := []) (ks := [4, 13]) (e' := [(4, .pointer (some ⟨bx4, 0, none⟩)), (13, .agg #[.slice A23 ((([] : List T82) ++ (List.drop 0 (List.take (Int.toNat (mnI ((p0).length : Int) 40)) p0)))).length c24, .bool p1])]) rfl trivial fun a hk => ?_
  refine x_op hk rfl ?_
  refine op_store tab hk (t := 27) (v := .agg #[.slice A23 ((([] : List T82) ++ (List.drop 0 (List.take (Int.toNat (mnI ((p0).length : Int) 40)) p0)))).length c24, .bool p1]) (b := bx4) (k := 0) (cs' := [.slice A23 ((([] : List T82) ++ (List.drop 0 (List.take (Int.toNat (mnI ((p0).length : Int) 40)) p0)))).length c24, .bool p1]) rfl rfl rfl rfl rfl rfl f5 rfl rfl fun w27 o28 st29 f5_ => ?_
  replace f25 := f25.st st29 (by decide)
  replace hs := hs.loc0 st29 (by decide)
  replace f5 := f5_
  refine wpListIn_nil ?_
  refine then_n ?_
  refine wpIn_ret ?_
  obtain rfl := Option.some.inj H
  exact x_retG hk (rs := [.cell 4 27]) (vs := [.agg #[.slice A23 ((([] : List T82) ++ (List.drop 0 (List.take (Int.toNat (mnI ((p0).length : Int) 40)) p0)))).length c24, .bool p1]]) rfl ⟨⟨_, rfl, load_box tab rfl rfl f5.now (k := 0) rfl rfl⟩, trivial⟩ ⟨fun b_ => if b_ < w.heap.size then o b_ else (fun _ => R0) (o28 b_), A23, c24, rfl, hs.close0 o (fun _ => R0), hs.close_ft (o := o) (ρ := fun _ => R0) f25 (by decide) rfl, hc26⟩

/-! tidewrack/tidewracklaw12.Rows -/
theorem tidewracklaw12_Rows_calls (K : Nat) (Ap0 : Option Addr) (cp0 : Nat) (p0 : List T26) (p1 : Int) (w : World) (o : Nat → Nat) (LF : Nat) (Lp0 : Nat) (Fp0 : Nat) (hp0 : NRd dT26 Ap0 p0 w o Lp0 Fp0) (hcp0 : (p0).length ≤ cp0) (hd0 : ([LF] : List Nat).Nodup) (hd1 : Lp0 ∉ [LF]) (hd2 : Fp0 ∉ [LF]) (R0 : Nat) (r : List T26) (H : tidewracklaw12_Rows K p0 p1 = some r) :
    Calls Tryd.prog 19 #[.slice Ap0 (p0).length cp0, .int .i64 p1] w (Ret fun v_ w' => ∃ o' : Nat → Nat, ∃ A0 : Option Addr, ∃ c0 : Nat, v_ = .slice A0 (r).length c0 ∧ St [] w o w' o' ∧ NOwn dT26 27 A0 c0 (r) w' o' R0 LF ∧ (r).length ≤ c0) := by
  refine x_enter (vs := [.slice Ap0 (p0).length cp0, .int .i64 p1]) Tryd.func19 rfl rfl rfl fun a hk => ?_
  obtain ⟨oi, hs0, h0, h1, hob, hoz, hoa⟩ := St.startM2 w o (m := 1) hd0 rfl
  have hs := hs0 []
  have f900000 := hp0.conv (fun P_ => h0 P_ _ hd1) (fun P_ => h0 P_ _ hd2)
  clear h0 h1 hs0
  rw [tidewracklaw12_Rows] at H
  refine x_seq ?_
  refine wpIn_region_lit ?_
  refine x_run tab hk (k := 1) (lv := []) (ks := [0, 1]) (e' := [(0, .slice Ap0 (p0).length cp0), (1, .int .i64 p1)]) rfl trivial fun a hk => ?_
  refine wpListIn_nil ?_
  refine then_n ?_
  refine x_seq ?_
  refine wpIn_region_lit ?_
  refine x_run tab hk (k := 1) (lv := []) (ks := [0, 1, 5]) (e' := [(0, .slice Ap0 (p0).length cp0), (1, .int .i64 p1), (5, .slice none 0 0)]) rfl trivial fun a hk => ?_
  refine wpListIn_nil ?_
  refine then_n ?_
  refine x_mid (fun a_ w_ => ∃ o423 : Nat → Nat, ∃ A424 : Option Addr, ∃ c425 : Nat, ∃ l426 : List T26, Kn 33 a_ [(5, .slice A424 (l426).length c425)] ∧ St [] w oi w_ o423 ∧ NOwn dT26 27 A424 c425 l426 w_ o423 34 1 ∧ (l426).length ≤ c425 ∧ tidewracklaw12_Rows_j1 l426 = some r) ?_ ?_
  rotate_left
  · rintro a w429 ⟨o423, A424, c425, l426, hk, hs, f427, hc428, H⟩
    rw [tidewracklaw12_Rows_j1] at H
    refine x_seq ?_
    refine wpIn_region_lit ?_
    refine x_run tab hk (k := 2) (lv := []) (ks := [4]) (e' := [(4, .slice A424 (l426).length c425)]) rfl trivial fun a hk => ?_
    refine wpListIn_nil ?_
    refine then_n ?_
    refine wpIn_ret ?_
    obtain rfl := Option.some.inj H
    exact x_retG hk (rs := [.tmp 4]) (vs := [.slice A424 (l426).length c425]) rfl ⟨rfl, trivial⟩ ⟨fun b_ => if b_ < w.heap.size then o b_ else (fun l_ => if l_ = 1 then LF else if l_ = 34 then R0 else 0) (o423 b_), A424, c425, rfl, hs.closeF (Lm := []) (Sh := []) hoa rfl (fun l_ => if l_ = 1 then LF else if l_ = 34 then R0 else 0), f427.conv (fun _ h_ => hs.closeM_ft (o := o) (ρ := fun l_ => if l_ = 1 then LF else if l_ = 34 then R0 else 0) h_ (lab_none hob rfl) rfl) (fun _ h_ => hs.closeM_ft (o := o) (ρ := fun l_ => if l_ = 1 then LF else if l_ = 34 then R0 else 0) h_ (lab_at hoa (i := 0) rfl) rfl), hc428⟩
  refine x_seq ?_
  refine wpIn_region_lit ?_
  refine x_run tab hk (k := 1) (lv := []) (ks := [0, 1, 5, 6]) (e' := [(0, .slice Ap0 (p0).length cp0), (1, .int .i64 p1), (5, .slice none 0 0), (6, .int .i64 0)]) rfl trivial fun a hk => ?_
  refine wpListIn_nil ?_
  refine then_n ?_
  refine wpIn_block ?_
  refine x_loop (fun j_ a_ w_ => ∃ o564 : Nat → Nat, ∃ A565 : Option Addr, ∃ c566 : Nat, ∃ l567 : List T26, ∃ x570 : Int, Kn 33 a_ [(0, .slice Ap0 (p0).length cp0), (1, .int .i64 p1), (5, .slice A565 (l567).length c566), (6, .int .i64 x570)] ∧ St [] w oi w_ o564 ∧ NOwn dT26 27 A565 c566 l567 w_ o564 47 1 ∧ NRd dT26 Ap0 p0 w_ o564 0 0 ∧ (l567).length ≤ c566 ∧ tidewracklaw12_Rows_l2 p0 p1 j_ l567 x570 = some r) (k := K) ⟨oi, none, 0, ([] : List T26), 0, (by exact Kn.pick (ks := [0, 1, 5, 6]) hk rfl), hs, (NOwn.nil _ _ _ _ _ _), f900000, (by simp), H⟩ (by rintro _ _ ⟨_, _, _, _, _, _, _, _, _, _, H_⟩; exact absurd (show (none : Option (List T26)) = some r from H_) (by simp)) ?_
  rintro k703 a w702 ⟨o564, A565, c566, l567, x570, hk, hs, f568, f900000, hc569, H⟩
  rw [tidewracklaw12_Rows_l2] at H
  obtain ⟨lp704, hlp705⟩ : ∃ lp_, lp_ = tidewracklaw12_Rows_l2 p0 p1 k703 := ⟨_, rfl⟩
  rw [← hlp705] at H
  refine x_mid (fun a_ w_ => ∃ o711 : Nat → Nat, Kn 33 a_ [(0, .slice Ap0 (p0).length cp0), (1, .int .i64 p1), (5, .slice A565 (l567).length c566), (6, .int .i64 x570)] ∧ St [] w oi w_ o711 ∧ NOwn dT26 27 A565 c566 l567 w_ o711 57 1 ∧ NRd dT26 Ap0 p0 w_ o711 0 0 ∧ tidewracklaw12_Rows_j3 p0 l567 x570 lp704 = some r) ?_ ?_
  rotate_left
  · rintro a w712 ⟨o711, hk, hs, f568, f900000, H⟩
    rw [tidewracklaw12_Rows_j3] at H
    refine x_seq ?_
    refine wpIn_block ?_
    obtain ⟨q748, H⟩ := ifS H
    obtain ⟨ad749, hAad749⟩ := NRd.addr f900000 q748
    have hk_C := hk
    have f568_C := f568
    have f900000_C := f900000
    subst hAad749
    have hk := hk_C
    clear hk_C
    have f568 := f568_C
    clear f568_C
    have f900000 := f900000_C
    clear f900000_C
    obtain ⟨A750, c751, f752, f753, hc754⟩ := elT26 f900000 (i := x570) q748
    obtain ⟨t758, hc759, H⟩ := bindS H
    obtain ⟨q778, H⟩ := ifS H
    refine xd_begin (o := o711) (fun W_ => (fun W => CellsAt (ad749.add (Int.toNat x570 * 2)) [.slice A750 ((rdD zT26 p0 x570).Cells).length c751, .bool ((rdD zT26 p0 x570).Wrapped)] W) W_ ∧ True) mixed rfl rfl fun w808 st809 => ?_
    replace f568 := f568.st st809 (by decide)
    replace f752 := f752.st st809 (by decide)
    replace f753 := f753.st st809 (by decide)
    replace f900000 := f900000.st st809 (by decide)
    replace hs := hs.locQ st809 hob rfl
    refine xd_take tab hk (k := 4) (is := [0, 1, 2, 3, 4, 5, 6, 7, 8, 9, 10]) (ls' := #[true, true, true, true, true, true, true, true, true, true, true, false, false, false, false]) (lv := [.slice A750 ((rdD zT26 p0 x570).Cells).length c751, .bool ((rdD zT26 p0 x570).Wrapped)]) (ks := [0, 1, 5, 6, 18, 23, 28]) (e' := [(0, .slice (some ad749) (p0).length cp0), (1, .int .i64 p1), (5, .slice A565 (l567).length c566), (6, .int .i64 x570), (18, .slice A565 (l567).length c566), (23, .slice A750 ((rdD zT26 p0 x570).Cells).length c751), (28, .bool ((rdD zT26 p0 x570).Wrapped))]) (by kernel_rfl) rfl rfl (by kernel_rfl) (np_blk (np_then (np_then (np_blk (np_then np_body))))) ⟨f752.now, trivial⟩ (fun W_ hS => ⟨q748, (CellsAt.one hS.1 tab rfl 0 rfl), q748, (CellsAt.one hS.1 tab rfl 1 rfl), trivial⟩) fun a hk => ?_
    refine xd_op hk (i := 11) (by kernel_rfl) rfl rfl ?_
    refine op_call hk ent_38 (vs := [.slice A750 ((rdD zT26 p0 x570).Cells).length c751, .bool ((rdD zT26 p0 x570).Wrapped)]) rfl (tidewracklaw09_Any_calls A750 c751 ((rdD zT26 p0 x570).Cells) ((rdD zT26 p0 x570).Wrapped) _ o711 _ f753 hc754 64  _ hc759) ?_
    rintro _ w813 ⟨o814, A816, c817, rfl, st815, f818, hc819⟩
    replace f568 := f568.st st815 (by decide)
    replace f752 := f752.st st815 (by decide)
    replace f753 := f753.st st815 (by decide)
    replace f900000 := f900000.st st815 (by decide)
    replace hs := hs.locQ st815 hob rfl
    have hk := hk.put 29 (.agg #[.slice A816 (t758.Cells).length c817, .bool t758.Wrapped]) rfl
    refine ⟨.inr ⟨f752.now, trivial⟩, ?_⟩
    refine xd_op hk (i := 12) (by kernel_rfl) rfl rfl ?_
    obtain ⟨o823, hR824⟩ := relab_ex o814 (fun l_ => if l_ = 64 then 1 else l_)
    replace hs : St [] w oi w813 o823 := by rw [hR824]; exact (hs.relabM hob (fun l_ => if l_ = 64 then 1 else l_) (by decide))
    replace f568 : NOwn dT26 27 A565 c566 l567 w813 o823 57 1 := by rw [hR824]; exact f568.relab (fun l_ => if l_ = 64 then 1 else l_) rfl
    replace f752 : Ft (fun W => CellsAt (ad749.add (Int.toNat x570 * 2)) [.slice A750 ((rdD zT26 p0 x570).Cells).length c751, .bool ((rdD zT26 p0 x570).Wrapped)] W) w813 o823 0 := by rw [hR824]; exact f752.relab (fun l_ => if l_ = 64 then 1 else l_) rfl
    replace f753 : Ft (RdC ET82 A750 ((rdD zT26 p0 x570).Cells)) w813 o823 0 := by rw [hR824]; exact f753.relab (fun l_ => if l_ = 64 then 1 else l_) rfl
    replace f818 : Ft (Own ET82 83 (.slice A816 (t758.Cells).length c817) t758.Cells) w813 o823 1 := by rw [hR824]; exact f818.relab (fun l_ => if l_ = 64 then 1 else l_) rfl
    replace f900000 : NRd dT26 (some ad749) p0 w813 o823 0 0 := by rw [hR824]; exact f900000.relab (fun l_ => if l_ = 64 then 1 else l_) rfl
    refine op_slice (o := o823) tab hk (vs := [.agg #[.slice A816 (t758.Cells).length c817, .bool t758.Wrapped]]) (cs := [.slice A816 (t758.Cells).length c817, .bool t758.Wrapped]) rfl rfl rfl rfl rfl rfl rfl rfl rfl 65 fun bx825 w820 o821 st822 f826 => ?_
    replace f568 := f568.st st822 (by decide)
    replace f752 := f752.st st822 (by decide)
    replace f753 := f753.st st822 (by decide)
    replace f818 := f818.st st822 (by decide)
    replace f900000 := f900000.st st822 (by decide)
    replace hs := hs.locQ st822 hob rfl
    have f827 : NOwn dT26 27 (some ⟨bx825, 0, none⟩) 1 ([t758] : List T26) w820 o821 65 1 := NOwn.litD (D := dT26) f826 [(⟨t758, A816, c817⟩ : NT26)] rfl (Inn.consD (D := dT26) (r := (⟨t758, A816, c817⟩ : NT26)) ((f818.imp fun _ h_ => Own.rd h_).imp fun _ h_ => ⟨h_, hc819⟩) (Inn.nilD _ _ _ _)) rfl (Nat.le_of_ble_eq_true rfl)
    have hk := hk.put 30 (.slice (some ⟨bx825, 0, none⟩) (([t758] : List T26)).length 1) rfl
    refine ⟨.inr ⟨f752.now, trivial⟩, ?_⟩
    refine xd_op hk (i := 13) (by kernel_rfl) rfl rfl ?_
    refine op_appendN (o := o821) (D := dT26) (xs := l567) (ys := ([t758] : List T26)) tab hk rfl rfl rfl rfl rfl rfl rfl f568 f827.rd (by decide) q778 fun A831 c832 w828 o829 st830 f833 hc834 => ?_
    replace f752 := f752.st st830 (by decide)
    replace f753 := f753.st st830 (by decide)
    replace f818 := f818.st st830 (by decide)
    replace f827 := f827.st st830 (by decide)
    replace f900000 := f900000.st st830 (by decide)
    replace hs := hs.locQ st830 hob rfl
    have hk := hk.put 31 (.slice A831 ((l567 ++ ([t758] : List T26))).length c832) rfl
    refine ⟨.inr ⟨f752.now, trivial⟩, ?_⟩
    refine xd_take tab hk (k := 0) (is := [14]) (ls' := #[true, true, true, true, true, true, true, true, true, true, true, true, true, true, true]) (lv := []) (ks := [0, 1, 5, 6]) (e' := [(0, .slice (some ad749) (p0).length cp0), (1, .int .i64 p1), (5, .slice A831 ((l567 ++ ([t758] : List T26))).length c832), (6, .int .i64 x570)]) (by kernel_rfl) rfl rfl (by kernel_rfl) (np_blk (np_then (np_then (np_blk (np_then np_body))))) ⟨f752.now, trivial⟩ (fun W_ hS => trivial) fun a hk => ?_
    refine xd_done (by kernel_rfl) ?_
    refine blk_n ?_
    refine then_n ?_
    refine wpIn_region_lit ?_
    refine x_run tab hk (k := 3) (lv := []) (ks := [0, 1, 5, 6]) (e' := [(0, .slice (some ad749) (p0).length cp0), (1, .int .i64 p1), (5, .slice A831 ((l567 ++ ([t758] : List T26))).length c832), (6, .int .i64 (IntKind.wrap .i64 (x570 + 1)))]) rfl trivial fun a hk => ?_
    refine wpListIn_nil ?_
    refine then_n ?_
    exact ⟨k703, Nat.le_refl _, (fun b_ => (fun l_ => if l_ = 57 then 47 else l_) (o829 b_)), A831, c832, (l567 ++ ([t758] : List T26)), (IntKind.wrap .i64 (x570 + 1)), (by exact Kn.pick (ks := [0, 1, 5, 6]) hk rfl), (hs.relabM hob (fun l_ => if l_ = 57 then 47 else l_) (by decide)), (f833.relab (fun l_ => if l_ = 57 then 47 else l_) rfl), (f900000.relab (fun l_ => if l_ = 57 then 47 else l_) rfl), hc834, (hlp705 ▸ H)⟩
  refine x_seq ?_
  refine wpIn_region_lit ?_
  refine x_run tab hk (k := 5) (lv := []) (ks := [0, 1, 5, 6, 11]) (e' := [(0, .slice Ap0 (p0).length cp0), (1, .int .i64 p1), (5, .slice A565 (l567).length c566), (6, .int .i64 x570), (11, .bool (decide (x570 < ((p0).length : Int))))]) rfl trivial fun a hk => ?_
  cases b835 : (decide (x570 < ((p0).length : Int)))
  · rw [b835] at hk H
    replace H := bifF H
    refine x_run tab hk (k := 4) (lv := []) (ks := [0, 1, 5, 6, 15]) (e' := [(0, .slice Ap0 (p0).length cp0), (1, .int .i64 p1), (5, .slice A565 (l567).length c566), (6, .int .i64 x570), (15, .bool false)]) rfl trivial fun a hk => ?_
    refine wpListIn_nil ?_
    refine then_n ?_
    refine x_if hk (b := false) rfl ?_
    refine (show Code.wpIn _ _ _ _ _ _ _ from ?_)
    refine wpIn_exit ?_
    refine then_x ?_
    refine then_x ?_
    refine blk_x ?_
    refine then_n ?_
    exact ⟨(fun b_ => (fun l_ => if l_ = 47 then 34 else l_) (o564 b_)), A565, c566, l567, (by exact Kn.pick (ks := [5]) hk rfl), (hs.relabM hob (fun l_ => if l_ = 47 then 34 else l_) (by decide)), (f568.relab (fun l_ => if l_ = 47 then 34 else l_) rfl), hc569, H⟩
  · rw [b835] at hk H
    replace H := bifT H
    refine x_run tab hk (k := 4) (lv := []) (ks := [0, 1, 5, 6, 15]) (e' := [(0, .slice Ap0 (p0).length cp0), (1, .int .i64 p1), (5, .slice A565 (l567).length c566), (6, .int .i64 x570), (15, .bool (decide (x570 < p1)))]) rfl trivial fun a hk => ?_
    refine wpListIn_nil ?_
    refine then_n ?_
    cases b836 : (decide (x570 < p1))
    · rw [b836] at hk H
      replace H := bifF H
      refine x_if hk (b := false) rfl ?_
      refine (show Code.wpIn _ _ _ _ _ _ _ from ?_)
      refine wpIn_exit ?_
      refine then_x ?_
      refine then_x ?_
      refine blk_x ?_
      refine then_n ?_
      exact ⟨(fun b_ => (fun l_ => if l_ = 47 then 34 else l_) (o564 b_)), A565, c566, l567, (by exact Kn.pick (ks := [5]) hk rfl), (hs.relabM hob (fun l_ => if l_ = 47 then 34 else l_) (by decide)), (f568.relab (fun l_ => if l_ = 47 then 34 else l_) rfl), hc569, H⟩
    · rw [b836] at hk H
      replace H := bifT H
      refine x_if hk (b := true) rfl ?_
      refine (show Code.wpIn _ _ _ _ _ _ _ from ?_)
      refine wpIn_skip ?_
      refine then_n ?_
      exact ⟨(fun b_ => (fun l_ => if l_ = 47 then 57 else l_) (o564 b_)), (by exact Kn.pick (ks := [0, 1, 5, 6]) hk rfl), (hs.relabM hob (fun l_ => if l_ = 47 then 57 else l_) (by decide)), (f568.relab (fun l_ => if l_ = 47 then 57 else l_) rfl), (f900000.relab (fun l_ => if l_ = 47 then 57 else l_) rfl), H⟩

end Go.Proofs.YthmdgjdgnfoloaaDoor
