/- Walks, printed by an own program: the machine's calls compute the plain functions. -/
import Derived.Test.YtpciioffkjpieaaGreatDoorW3
set_option linter.unusedVariables false
set_option linter.unusedSimpArgs false
namespace Go.Proofs.YtpciioffkjpieaaGreatDoor
open Go Go.Proofs.XC
/-! (*tidewrack/book.Book).Add -/
abbrev R_99 (LF Lp0 Lp0_0 Lp0_1 Lp0_2 : Nat) (l_ : Nat) : Nat := if l_ = 1 then LF else if l_ = 2 then Lp0 else if l_ = 3 then Lp0_0 else if l_ = 4 then Lp0_1 else if l_ = 5 then Lp0_2 else 0
abbrev R_100 (l_ : Nat) : Nat := if l_ = 369 then 378 else l_
abbrev R_101 (l_ : Nat) : Nat := if l_ = 378 then 375 else l_
abbrev R_102 (l_ : Nat) : Nat := if l_ = 380 then 5 else l_
abbrev R_103 (l_ : Nat) : Nat := if l_ = 385 then 369 else l_
abbrev R_104 (l_ : Nat) : Nat := if l_ = 388 then 369 else l_
abbrev R_105 (l_ : Nat) : Nat := if l_ = 358 then 385 else l_
abbrev R_106 (l_ : Nat) : Nat := if l_ = 358 then 388 else if l_ = 387 then 389 else l_
set_option maxHeartbeats 4000000 in
set_option maxRecDepth 20000 in
theorem book_Book_Add_calls (K : Nat) (bp0 : Nat) (Ap0_0 : Option Addr) (cp0_0 : Nat) (Ap0_1 : Option Addr) (cp0_1 : Nat) (Ap0_2 : Option Addr) (cp0_2 : Nat) (p0 : T60) (Ap1 : Option Addr) (cp1 : Nat) (p1 : List T65) (w : World) (o : Nat → Nat) (LF : Nat) (Lg2 : Nat) (hg2 : Ft (RdC (encInt .u32) (some ⟨2, 0, none⟩) glob2) w o Lg2) (Lp0 : Nat) (hp0 : Ft (Bx bp0 61 [.slice Ap0_0 (p0.l).length cp0_0, .slice Ap0_1 (p0.chains).length cp0_1, .slice Ap0_2 (p0.begun).length cp0_2]) w o Lp0) (Lp0_0 : Nat) (hp0_0 : NOwn (dRows ET46) 43 Ap0_0 cp0_0 p0.l w o Lp0_0 LF) (hcp0_0 : (p0.l).length ≤ cp0_0) (Lp0_1 : Nat) (hp0_1 : Ft (Own (encInt .i64) 3 (.slice Ap0_1 (p0.chains).length cp0_1) p0.chains) w o Lp0_1) (hcp0_1 : (p0.chains).length ≤ cp0_1) (Lp0_2 : Nat) (hp0_2 : Ft (Own ET46 47 (.slice Ap0_2 (p0.begun).length cp0_2) p0.begun) w o Lp0_2) (hcp0_2 : (p0.begun).length ≤ cp0_2) (Lp1 : Nat) (hp1 : NRd dT65 Ap1 p1 w o Lp1 LF) (hcp1 : (p1).length ≤ cp1) (hd0 : ([LF, Lp0, Lp0_0, Lp0_1, Lp0_2] : List Nat).Nodup) (hd1 : Lg2 ∉ [LF, Lp0, Lp0_0, Lp0_1, Lp0_2]) (hd2 : Lp1 ∉ [LF, Lp0, Lp0_0, Lp0_1, Lp0_2]) (r : Int × T60) (H : book_Book_Add K p0 p1 = some r) :
    Calls Tryz.prog 7 #[.pointer (some ⟨bp0, 0, none⟩), .slice Ap1 (p1).length cp1] w (Ret fun v_ w' => ∃ o' : Nat → Nat, ∃ A0 : Option Addr, ∃ c0 : Nat, ∃ A1 : Option Addr, ∃ c1 : Nat, ∃ A2 : Option Addr, ∃ c2 : Nat, v_ = .int .i64 r.1 ∧ St [Lp0, Lp0_0, Lp0_1, Lp0_2] w o w' o' ∧ Ft (Bx bp0 61 [.slice A0 (r.2.l).length c0, .slice A1 (r.2.chains).length c1, .slice A2 (r.2.begun).length c2]) w' o' Lp0 ∧ NOwn (dRows ET46) 43 A0 c0 r.2.l w' o' Lp0_0 LF ∧ (r.2.l).length ≤ c0 ∧ Ft (Own (encInt .i64) 3 (.slice A1 (r.2.chains).length c1) r.2.chains) w' o' Lp0_1 ∧ (r.2.chains).length ≤ c1 ∧ Ft (Own ET46 47 (.slice A2 (r.2.begun).length c2) r.2.begun) w' o' Lp0_2 ∧ (r.2.begun).length ≤ c2) := by
  refine x_enter (vs := [.pointer (some ⟨bp0, 0, none⟩), .slice Ap1 (p1).length cp1]) Tryz.func7 rfl rfl rfl fun a hk => ?_
  obtain ⟨oi, hs0, h0, h1, hob, hoz, hoa⟩ := St.startM2 w o (m := 5) hd0 rfl
  have hs := hs0 [2, 3, 4, 5]
  have fg2 := h0 _ _ hd1 hg2
  have f900000 := hp0_0.conv (fun _ h_ => h1 2 3 h_ rfl rfl) (fun _ h_ => h1 0 1 h_ rfl rfl)
  have f900001 := h1 3 4 hp0_1 rfl rfl
  have f900002 := h1 4 5 hp0_2 rfl rfl
  have f900019 := h1 1 2 hp0 rfl rfl
  have f900020 := hp1.conv (fun P_ => h0 P_ _ hd2) (fun _ h_ => h1 0 1 h_ rfl rfl)
  clear h0 h1 hs0
  rw [book_Book_Add] at H
  refine x_seq ?_
  refine wpIn_region_lit ?_
  refine x_run tab hk (k := 1) (lv := []) (ks := [0, 1]) (e' := [(0, .pointer (some ⟨bp0, 0, none⟩)), (1, .slice Ap1 (p1).length cp1)]) rfl trivial fun a hk => ?_
  refine wpListIn_nil ?_
  refine then_n ?_
  refine x_seq ?_
  refine wpIn_region_lit ?_
  refine x_run tab hk (k := 6) (lv := [.slice Ap0_0 (p0.l).length cp0_0]) (ks := [0, 1, 5]) (e' := [(0, .pointer (some ⟨bp0, 0, none⟩)), (1, .slice Ap1 (p1).length cp1), (5, .int .i64 ((p0.l).length : Int))]) rfl ⟨(load1 tab rfl ((Bx.cell f900019.now 0).trans rfl)), trivial⟩ fun a hk => ?_
  refine wpListIn_nil ?_
  refine then_n ?_
  refine x_mid (fun a_ w_ => ∃ o4729 : Nat → Nat, ∃ A4730 : Option Addr, ∃ c4731 : Nat, ∃ l4732 : List (List T46), ∃ A4735 : Option Addr, ∃ c4736 : Nat, ∃ l4737 : List Int, ∃ A4740 : Option Addr, ∃ c4741 : Nat, ∃ l4742 : List T46, Kn 71 a_ [(0, .pointer (some ⟨bp0, 0, none⟩)), (5, .int .i64 ((p0.l).length : Int))] ∧ St [2, 3, 4, 5] w oi w_ o4729 ∧ NOwn (dRows ET46) 43 A4730 c4731 l4732 w_ o4729 3 1 ∧ Ft (Own (encInt .i64) 3 (.slice A4735 (l4737).length c4736) l4737) w_ o4729 4 ∧ Ft (Own ET46 47 (.slice A4740 (l4742).length c4741) l4742) w_ o4729 5 ∧ Ft (Bx bp0 61 [.slice A4730 (l4732).length c4731, .slice A4735 (l4737).length c4736, .slice A4740 (l4742).length c4741]) w_ o4729 2 ∧ Ft (RdC (encInt .u32) (some ⟨2, 0, none⟩) glob2) w_ o4729 0 ∧ (l4732).length ≤ c4731 ∧ (l4737).length ≤ c4736 ∧ (l4742).length ≤ c4741 ∧ book_Book_Add_j1 p0 l4732 l4737 l4742 = some r) ?_ ?_
  rotate_left
  · refine fun a w4745 z0 => z0.elim fun o4729 z1 => z1.elim fun A4730 z2 => z2.elim fun c4731 z3 => z3.elim fun l4732 z4 => z4.elim fun A4735 z5 => z5.elim fun c4736 z6 => z6.elim fun l4737 z7 => z7.elim fun A4740 z8 => z8.elim fun c4741 z9 => z9.elim fun l4742 z10 => z10.elim fun hk z11 => z11.elim fun hs z12 => z12.elim fun f4733 z13 => z13.elim fun f4738 z14 => z14.elim fun f4743 z15 => z15.elim fun f900019 z16 => z16.elim fun fg2 z17 => z17.elim fun hc4734 z18 => z18.elim fun hc4739 z19 => z19.elim fun hc4744 H => ?_
    clear z0 z1 z2 z3 z4 z5 z6 z7 z8 z9 z10 z11 z12 z13 z14 z15 z16 z17 z18 z19
    rw [book_Book_Add_j1] at H
    refine x_seq ?_
    refine wpIn_region_lit ?_
    refine x_run tab hk (k := 8) (lv := [.slice A4730 (l4732).length c4731]) (ks := [4]) (e' := [(4, .int .i64 (IntKind.wrap .i64 (((l4732).length : Int) - ((p0.l).length : Int))))]) rfl ⟨(load1 tab rfl ((Bx.cell f900019.now 0).trans rfl)), trivial⟩ fun a hk => ?_
    refine wpListIn_nil ?_
    refine then_n ?_
    refine wpIn_ret ?_
    obtain rfl := Option.some.inj H
    exact x_retG hk (rs := [.tmp 4]) (vs := [.int .i64 (IntKind.wrap .i64 (((l4732).length : Int) - ((p0.l).length : Int)))]) rfl ⟨rfl, trivial⟩ ⟨cl w oi o [2, 3, 4, 5] (R_99 LF Lp0 Lp0_0 Lp0_1 Lp0_2) o4729, A4730, c4731, A4735, c4736, A4740, c4741, rfl, hs.closeF (Lm := [Lp0, Lp0_0, Lp0_1, Lp0_2]) (Sh := []) hoa rfl (R_99 LF Lp0 Lp0_0 Lp0_1 Lp0_2), hs.closeM_ft (o := o) (ρ := R_99 LF Lp0 Lp0_0 Lp0_1 Lp0_2) f900019 (lab_at hoa (i := 1) rfl) rfl, f4733.conv (fun _ h_ => hs.closeM_ft (o := o) (ρ := R_99 LF Lp0 Lp0_0 Lp0_1 Lp0_2) h_ (lab_at hoa (i := 2) rfl) rfl) (fun _ h_ => hs.closeM_ft (o := o) (ρ := R_99 LF Lp0 Lp0_0 Lp0_1 Lp0_2) h_ (lab_at hoa (i := 0) rfl) rfl), hc4734, hs.closeM_ft (o := o) (ρ := R_99 LF Lp0 Lp0_0 Lp0_1 Lp0_2) f4738 (lab_at hoa (i := 3) rfl) rfl, hc4739, hs.closeM_ft (o := o) (ρ := R_99 LF Lp0 Lp0_0 Lp0_1 Lp0_2) f4743 (lab_at hoa (i := 4) rfl) rfl, hc4744⟩
  refine x_seq ?_
  refine wpIn_region_lit ?_
  refine x_run tab hk (k := 3) (lv := []) (ks := [0, 5, 13, 14, 15]) (e' := [(0, .pointer (some ⟨bp0, 0, none⟩)), (5, .int .i64 ((p0.l).length : Int)), (13, .slice Ap1 (p1).length cp1), (14, .int .i64 ((p1).length : Int)), (15, .int .i64 0)]) rfl trivial fun a hk => ?_
  refine wpListIn_nil ?_
  refine then_n ?_
  refine wpIn_block ?_
  refine x_loop (fun j_ a_ w_ => ∃ o6309 : Nat → Nat, ∃ A6310 : Option Addr, ∃ c6311 : Nat, ∃ l6312 : List (List T46), ∃ A6315 : Option Addr, ∃ c6316 : Nat, ∃ l6317 : List Int, ∃ A6320 : Option Addr, ∃ c6321 : Nat, ∃ l6322 : List T46, ∃ A6325 : Option Addr, ∃ c6326 : Nat, ∃ x6329 : Int, Kn 71 a_ [(0, .pointer (some ⟨bp0, 0, none⟩)), (5, .int .i64 ((p0.l).length : Int)), (13, .slice A6325 (p1).length c6326), (14, .int .i64 ((p1).length : Int)), (15, .int .i64 x6329)] ∧ St [2, 3, 4, 5] w oi w_ o6309 ∧ NOwn (dRows ET46) 43 A6310 c6311 l6312 w_ o6309 3 1 ∧ Ft (Own (encInt .i64) 3 (.slice A6315 (l6317).length c6316) l6317) w_ o6309 4 ∧ Ft (Own ET46 47 (.slice A6320 (l6322).length c6321) l6322) w_ o6309 5 ∧ NRd dT65 A6325 p1 w_ o6309 0 1 ∧ Ft (Bx bp0 61 [.slice A6310 (l6312).length c6311, .slice A6315 (l6317).length c6316, .slice A6320 (l6322).length c6321]) w_ o6309 2 ∧ Ft (RdC (encInt .u32) (some ⟨2, 0, none⟩) glob2) w_ o6309 0 ∧ (l6312).length ≤ c6311 ∧ (l6317).length ≤ c6316 ∧ (l6322).length ≤ c6321 ∧ (p1).length ≤ c6326 ∧ book_Book_Add_l2 K p0 p1 j_ l6312 l6317 l6322 x6329 = some r) (k := K) ⟨oi, Ap0_0, cp0_0, p0.l, Ap0_1, cp0_1, p0.chains, Ap0_2, cp0_2, p0.begun, Ap1, cp1, 0, (by exact Kn.pick (ks := [0, 5, 13, 14, 15]) hk rfl), hs, f900000, f900001, f900002, f900020, f900019, fg2, hcp0_0, hcp0_1, hcp0_2, hcp1, H⟩ (fun _ _ z => z.elim fun _ z => z.elim fun _ z => z.elim fun _ z => z.elim fun _ z => z.elim fun _ z => z.elim fun _ z => z.elim fun _ z => z.elim fun _ z => z.elim fun _ z => z.elim fun _ z => z.elim fun _ z => z.elim fun _ z => z.elim fun _ z => z.elim fun _ z => z.elim fun _ z => z.elim fun _ z => z.elim fun _ z => z.elim fun _ z => z.elim fun _ z => z.elim fun _ z => z.elim fun _ z => z.elim fun _ z => z.elim fun _ z => z.elim fun _ z => z.elim fun _ z => absurd (show (none : Option (Int × T60)) = some r from z) (by simp)) ?_
  refine fun k7891 a w7890 z0 => z0.elim fun o6309 z1 => z1.elim fun A6310 z2 => z2.elim fun c6311 z3 => z3.elim fun l6312 z4 => z4.elim fun A6315 z5 => z5.elim fun c6316 z6 => z6.elim fun l6317 z7 => z7.elim fun A6320 z8 => z8.elim fun c6321 z9 => z9.elim fun l6322 z10 => z10.elim fun A6325 z11 => z11.elim fun c6326 z12 => z12.elim fun x6329 z13 => z13.elim fun hk z14 => z14.elim fun hs z15 => z15.elim fun f6313 z16 => z16.elim fun f6318 z17 => z17.elim fun f6323 z18 => z18.elim fun f6327 z19 => z19.elim fun f900019 z20 => z20.elim fun fg2 z21 => z21.elim fun hc6314 z22 => z22.elim fun hc6319 z23 => z23.elim fun hc6324 z24 => z24.elim fun hc6328 H => ?_
  clear z0 z1 z2 z3 z4 z5 z6 z7 z8 z9 z10 z11 z12 z13 z14 z15 z16 z17 z18 z19 z20 z21 z22 z23 z24
  rw [book_Book_Add_l2] at H
  obtain ⟨lp7892, hlp7893⟩ : ∃ lp_, lp_ = book_Book_Add_l2 K p0 p1 k7891 := ⟨_, rfl⟩
  rw [← hlp7893] at H
  refine x_seq ?_
  refine wpIn_region_lit ?_
  refine x_run tab hk (k := 1) (lv := []) (ks := [0, 5, 13, 14, 15, 16]) (e' := [(0, .pointer (some ⟨bp0, 0, none⟩)), (5, .int .i64 ((p0.l).length : Int)), (13, .slice A6325 (p1).length c6326), (14, .int .i64 ((p1).length : Int)), (15, .int .i64 x6329), (16, .bool (decide (x6329 < ((p1).length : Int))))]) rfl trivial fun a hk => ?_
  refine wpListIn_nil ?_
  refine then_n ?_
  refine x_seq ?_
  cases b7894 : (decide (x6329 < ((p1).length : Int)))
  · rw [b7894] at hk H
    replace H := bifF H
    refine x_if hk (b := false) rfl ?_
    refine (show Code.wpIn _ _ _ _ _ _ _ from ?_)
    refine wpIn_exit ?_
    refine then_x ?_
    refine then_x ?_
    refine blk_x ?_
    refine then_n ?_
    exact ⟨o6309, A6310, c6311, l6312, A6315, c6316, l6317, A6320, c6321, l6322, (by exact Kn.pick (ks := [0, 5]) hk rfl), hs, f6313, f6318, f6323, f900019, fg2, hc6314, hc6319, hc6324, H⟩
  · rw [b7894] at hk H
    replace H := bifT H
    refine x_if hk (b := true) rfl ?_
    refine (show Code.wpIn _ _ _ _ _ _ _ from ?_)
    refine wpIn_skip ?_
    refine then_n ?_
    refine x_mid (fun a_ w_ => ∃ o8676 : Nat → Nat, ∃ A8677 : Option Addr, ∃ c8678 : Nat, ∃ l8679 : List (List T46), ∃ A8682 : Option Addr, ∃ c8683 : Nat, ∃ l8684 : List Int, ∃ A8687 : Option Addr, ∃ c8688 : Nat, ∃ l8689 : List T46, ∃ A8692 : Option Addr, ∃ c8693 : Nat, Kn 71 a_ [(0, .pointer (some ⟨bp0, 0, none⟩)), (5, .int .i64 ((p0.l).length : Int)), (13, .slice A8692 (p1).length c8693), (14, .int .i64 ((p1).length : Int)), (15, .int .i64 x6329)] ∧ St [2, 3, 4, 5] w oi w_ o8676 ∧ NOwn (dRows ET46) 43 A8677 c8678 l8679 w_ o8676 3 1 ∧ Ft (Own (encInt .i64) 3 (.slice A8682 (l8684).length c8683) l8684) w_ o8676 4 ∧ Ft (Own ET46 47 (.slice A8687 (l8689).length c8688) l8689) w_ o8676 5 ∧ NRd dT65 A8692 p1 w_ o8676 0 1 ∧ Ft (Bx bp0 61 [.slice A8677 (l8679).length c8678, .slice A8682 (l8684).length c8683, .slice A8687 (l8689).length c8688]) w_ o8676 2 ∧ Ft (RdC (encInt .u32) (some ⟨2, 0, none⟩) glob2) w_ o8676 0 ∧ (l8679).length ≤ c8678 ∧ (l8684).length ≤ c8683 ∧ (l8689).length ≤ c8688 ∧ (p1).length ≤ c8693 ∧ book_Book_Add_j3 x6329 lp7892 l8679 l8684 l8689 = some r) ?_ ?_
    rotate_left
    · refine fun a w8696 z0 => z0.elim fun o8676 z1 => z1.elim fun A8677 z2 => z2.elim fun c8678 z3 => z3.elim fun l8679 z4 => z4.elim fun A8682 z5 => z5.elim fun c8683 z6 => z6.elim fun l8684 z7 => z7.elim fun A8687 z8 => z8.elim fun c8688 z9 => z9.elim fun l8689 z10 => z10.elim fun A8692 z11 => z11.elim fun c8693 z12 => z12.elim fun hk z13 => z13.elim fun hs z14 => z14.elim fun f8680 z15 => z15.elim fun f8685 z16 => z16.elim fun f8690 z17 => z17.elim fun f8694 z18 => z18.elim fun f900019 z19 => z19.elim fun fg2 z20 => z20.elim fun hc8681 z21 => z21.elim fun hc8686 z22 => z22.elim fun hc8691 z23 => z23.elim fun hc8695 H => ?_
      clear z0 z1 z2 z3 z4 z5 z6 z7 z8 z9 z10 z11 z12 z13 z14 z15 z16 z17 z18 z19 z20 z21 z22 z23
      rw [book_Book_Add_j3] at H
      refine wpIn_region_lit ?_
      refine x_run tab hk (k := 2) (lv := []) (ks := [0, 5, 13, 14, 15]) (e' := [(0, .pointer (some ⟨bp0, 0, none⟩)), (5, .int .i64 ((p0.l).length : Int)), (13, .slice A8692 (p1).length c8693), (14, .int .i64 ((p1).length : Int)), (15, .int .i64 (IntKind.wrap .i64 (x6329 + 1)))]) rfl trivial fun a hk => ?_
      refine wpListIn_nil ?_
      refine then_n ?_
      exact ⟨k7891, Nat.le_refl _, o8676, A8677, c8678, l8679, A8682, c8683, l8684, A8687, c8688, l8689, A8692, c8693, (IntKind.wrap .i64 (x6329 + 1)), (by exact Kn.pick (ks := [0, 5, 13, 14, 15]) hk rfl), hs, f8680, f8685, f8690, f8694, f900019, fg2, hc8681, hc8686, hc8691, hc8695, (hlp7893 ▸ H)⟩
    refine wpIn_block ?_
    refine x_seq ?_
    refine wpIn_region_lit ?_
    obtain ⟨q8697, H⟩ := ifS H
    obtain ⟨ad8698, hAad8698⟩ := NRd.addr f6327 q8697
    have hk_C := hk
    have f6313_C := f6313
    have f6318_C := f6318
    have f6323_C := f6323
    have f6327_C := f6327
    have f900019_C := f900019
    have fg2_C := fg2
    subst hAad8698
    have hk := hk_C
    clear hk_C
    have f6313 := f6313_C
    clear f6313_C
    have f6318 := f6318_C
    clear f6318_C
    have f6323 := f6323_C
    clear f6323_C
    have f6327 := f6327_C
    clear f6327_C
    have f900019 := f900019_C
    clear f900019_C
    have fg2 := fg2_C
    clear fg2_C
    obtain ⟨A8699, c8700, f8701, f8702, hc8703⟩ := elT65 f6327 (i := x6329) q8697
    refine x_run tab hk (k := 2) (lv := [.agg #[.slice A8699 ((rdD zT65 p1 x6329).Cells).length c8700, .bool ((rdD zT65 p1 x6329).Wrapped)]]) (ks := [0, 5, 13, 14, 15, 18]) (e' := [(0, .pointer (some ⟨bp0, 0, none⟩)), (5, .int .i64 ((p0.l).length : Int)), (13, .slice (some ad8698) (p1).length c6326), (14, .int .i64 ((p1).length : Int)), (15, .int .i64 x6329), (18, .agg #[.slice A8699 ((rdD zT65 p1 x6329).Cells).length c8700, .bool ((rdD zT65 p1 x6329).Wrapped)])]) rfl ⟨q8697, (CellsAt.all f8701.now tab rfl rfl rfl), trivial⟩ fun a hk => ?_
    refine x_op hk rfl ?_
    refine op_alloc (o := o6309) tab (t := 66) (cs := [.slice none 0 0, .bool false]) rfl rfl 358 fun bx8707 w8704 o8705 st8706 f8708 => ?_
    replace f6313 := f6313.st st8706 (by decide)
    replace f6318 := f6318.st st8706 (by decide)
    replace f6323 := f6323.st st8706 (by decide)
    replace f6327 := f6327.st st8706 (by decide)
    replace f8702 := f8702.st st8706 (by decide)
    replace f900019 := f900019.st st8706 (by decide)
    replace fg2 := fg2.st st8706 (by decide)
    replace hs := hs.locQ st8706 hob rfl
    have hk := hk.put 7 (.pointer (some ⟨bx8707, 0, none⟩)) rfl
    refine x_op hk rfl ?_
    refine op_store tab hk (t := 66) (v := .agg #[.slice A8699 ((rdD zT65 p1 x6329).Cells).length c8700, .bool ((rdD zT65 p1 x6329).Wrapped)]) (b := bx8707) (k := 0) (cs' := [.slice A8699 ((rdD zT65 p1 x6329).Cells).length c8700, .bool ((rdD zT65 p1 x6329).Wrapped)]) rfl rfl rfl rfl rfl rfl f8708 rfl rfl fun w8709 o8710 st8711 f8708_ => ?_
    replace f6313 := f6313.st st8711 (by decide)
    replace f6318 := f6318.st st8711 (by decide)
    replace f6323 := f6323.st st8711 (by decide)
    replace f6327 := f6327.st st8711 (by decide)
    replace f8702 := f8702.st st8711 (by decide)
    replace f900019 := f900019.st st8711 (by decide)
    replace fg2 := fg2.st st8711 (by decide)
    replace hs := hs.locQ st8711 hob rfl
    replace f8708 := f8708_
    refine wpListIn_nil ?_
    refine then_n ?_
    refine x_seq ?_
    refine x_cut (fun a_ w_ => ∃ o8895 : Nat → Nat, ∃ A8896 : Option Addr, ∃ c8897 : Nat, ∃ l8898 : List T46, Kn 71 a_ [(0, .pointer (some ⟨bp0, 0, none⟩)), (5, .int .i64 ((p0.l).length : Int)), (7, .pointer (some ⟨bx8707, 0, none⟩)), (13, .slice (some ad8698) (p1).length c6326), (14, .int .i64 ((p1).length : Int)), (15, .int .i64 x6329)] ∧ St [2, 3, 4, 5] w oi w_ o8895 ∧ NOwn (dRows ET46) 43 A6310 c6311 l6312 w_ o8895 3 1 ∧ Ft (Own (encInt .i64) 3 (.slice A6315 (l6317).length c6316) l6317) w_ o8895 4 ∧ NRd dT65 (some ad8698) p1 w_ o8895 0 1 ∧ Ft (RdC ET77 A8699 ((rdD zT65 p1 x6329).Cells)) w_ o8895 1 ∧ Ft (Bx bx8707 66 [.slice A8699 ((rdD zT65 p1 x6329).Cells).length c8700, .bool ((rdD zT65 p1 x6329).Wrapped)]) w_ o8895 369 ∧ Ft (Own ET46 47 (.slice A8896 (l8898).length c8897) l8898) w_ o8895 5 ∧ Ft (Bx bp0 61 [.slice A6310 (l6312).length c6311, .slice A6315 (l6317).length c6316, .slice A8896 (l8898).length c8897]) w_ o8895 2 ∧ Ft (RdC (encInt .u32) (some ⟨2, 0, none⟩) glob2) w_ o8895 0 ∧ (l8898).length ≤ c8897 ∧ book_Book_Add_j4 K p1 l6312 l6317 x6329 lp7892 l8898 = some r) ?_ ?_
    rotate_left
    · refine fun a w8901 z0 => z0.elim fun o8895 z1 => z1.elim fun A8896 z2 => z2.elim fun c8897 z3 => z3.elim fun l8898 z4 => z4.elim fun hk z5 => z5.elim fun hs z6 => z6.elim fun f6313 z7 => z7.elim fun f6318 z8 => z8.elim fun f6327 z9 => z9.elim fun f8702 z10 => z10.elim fun f8708 z11 => z11.elim fun f8899 z12 => z12.elim fun f900019 z13 => z13.elim fun fg2 z14 => z14.elim fun hc8900 H => ?_
      clear z0 z1 z2 z3 z4 z5 z6 z7 z8 z9 z10 z11 z12 z13 z14
      rw [book_Book_Add_j4] at H
      refine then_n ?_
      refine x_mid (fun a_ w_ => ∃ o9092 : Nat → Nat, ∃ A9093 : Option Addr, ∃ c9094 : Nat, ∃ l9095 : List (List T46), ∃ A9098 : Option Addr, ∃ c9099 : Nat, ∃ l9100 : List Int, ∃ A9103 : Option Addr, ∃ c9104 : Nat, ∃ l9105 : List T46, Kn 71 a_ [(0, .pointer (some ⟨bp0, 0, none⟩)), (5, .int .i64 ((p0.l).length : Int)), (7, .pointer (some ⟨bx8707, 0, none⟩)), (13, .slice (some ad8698) (p1).length c6326), (14, .int .i64 ((p1).length : Int)), (15, .int .i64 x6329)] ∧ St [2, 3, 4, 5] w oi w_ o9092 ∧ NRd dT65 (some ad8698) p1 w_ o9092 0 1 ∧ Ft (RdC ET77 A8699 ((rdD zT65 p1 x6329).Cells)) w_ o9092 1 ∧ Ft (Bx bx8707 66 [.slice A8699 ((rdD zT65 p1 x6329).Cells).length c8700, .bool ((rdD zT65 p1 x6329).Wrapped)]) w_ o9092 375 ∧ Ft (Bx bp0 61 [.slice A9093 (l9095).length c9094, .slice A9098 (l9100).length c9099, .slice A9103 (l9105).length c9104]) w_ o9092 2 ∧ NOwn (dRows ET46) 43 A9093 c9094 l9095 w_ o9092 3 1 ∧ Ft (Own (encInt .i64) 3 (.slice A9098 (l9100).length c9099) l9100) w_ o9092 4 ∧ Ft (Own ET46 47 (.slice A9103 (l9105).length c9104) l9105) w_ o9092 5 ∧ Ft (RdC (encInt .u32) (some ⟨2, 0, none⟩) glob2) w_ o9092 0 ∧ (l9095).length ≤ c9094 ∧ (l9100).length ≤ c9099 ∧ (l9105).length ≤ c9104 ∧ book_Book_Add_j5 K p1 x6329 lp7892 l9095 l9100 l9105 = some r) ?_ ?_
      rotate_left
      · refine fun a w9108 z0 => z0.elim fun o9092 z1 => z1.elim fun A9093 z2 => z2.elim fun c9094 z3 => z3.elim fun l9095 z4 => z4.elim fun A9098 z5 => z5.elim fun c9099 z6 => z6.elim fun l9100 z7 => z7.elim fun A9103 z8 => z8.elim fun c9104 z9 => z9.elim fun l9105 z10 => z10.elim fun hk z11 => z11.elim fun hs z12 => z12.elim fun f6327 z13 => z13.elim fun f8702 z14 => z14.elim fun f8708 z15 => z15.elim fun f900019 z16 => z16.elim fun f9096 z17 => z17.elim fun f9101 z18 => z18.elim fun f9106 z19 => z19.elim fun fg2 z20 => z20.elim fun hc9097 z21 => z21.elim fun hc9102 z22 => z22.elim fun hc9107 H => ?_
        clear z0 z1 z2 z3 z4 z5 z6 z7 z8 z9 z10 z11 z12 z13 z14 z15 z16 z17 z18 z19 z20 z21 z22
        rw [book_Book_Add_j5] at H
        refine x_seq ?_
        refine wpIn_region_lit ?_
        refine x_run tab hk (k := 3) (lv := [.bool ((rdD zT65 p1 x6329).Wrapped)]) (ks := [0, 5, 13, 14, 15, 53]) (e' := [(0, .pointer (some ⟨bp0, 0, none⟩)), (5, .int .i64 ((p0.l).length : Int)), (13, .slice (some ad8698) (p1).length c6326), (14, .int .i64 ((p1).length : Int)), (15, .int .i64 x6329), (53, .bool (!((rdD zT65 p1 x6329).Wrapped)))]) rfl ⟨(load1 tab rfl ((Bx.cell f8708.now 1).trans rfl)), trivial⟩ fun a hk => ?_
        refine wpListIn_nil ?_
        refine then_n ?_
        cases b9109 : (!((rdD zT65 p1 x6329).Wrapped))
        · rw [b9109] at hk H
          replace H := bifF H
          refine x_if hk (b := false) rfl ?_
          refine (show Code.wpIn _ _ _ _ _ _ _ from ?_)
          refine wpIn_skip ?_
          refine blk_n ?_
          refine then_n ?_
          exact ⟨o9092, A9093, c9094, l9095, A9098, c9099, l9100, A9103, c9104, l9105, (some ad8698), c6326, (by exact Kn.pick (ks := [0, 5, 13, 14, 15]) hk rfl), hs, f9096, f9101, f9106, f6327, f900019, fg2, hc9097, hc9102, hc9107, hc6328, H⟩
        · rw [b9109] at hk H
          replace H := bifT H
          refine x_if hk (b := true) rfl ?_
          refine (show Code.wpIn _ _ _ _ _ _ _ from ?_)
          refine x_seq ?_
          refine wpIn_region_lit ?_
          refine x_run tab hk (k := 5) (lv := [.slice A9103 (l9105).length c9104]) (ks := [0, 5, 13, 14, 15, 54, 58]) (e' := [(0, .pointer (some ⟨bp0, 0, none⟩)), (5, .int .i64 ((p0.l).length : Int)), (13, .slice (some ad8698) (p1).length c6326), (14, .int .i64 ((p1).length : Int)), (15, .int .i64 x6329), (54, .pointer (some ⟨bp0, 0, none⟩)), (58, .slice A9103 (l9105).length c9104)]) rfl ⟨(load1 tab rfl ((Bx.cell f900019.now 2).trans rfl)), trivial⟩ fun a hk => ?_
          refine x_op hk rfl ?_
          obtain ⟨t9113, hc9114, H⟩ := bindS H
          refine op_call hk ent_15 (vs := [.pointer (some ⟨bp0, 0, none⟩), .slice A9103 (l9105).length c9104]) rfl (book_Book_close_calls K bp0 A9093 c9094 A9098 c9099 A9103 c9104 (⟨l9095, l9100, l9105⟩ : T60) A9103 c9104 l9105 _ o9092 1 0 fg2 2 f900019 3 f9096 hc9097 4 f9101 hc9102 5 f9106 hc9107 (f9106.imp fun _ h_ => Own.rd h_) hc9107 (by decide) (by decide)   _ hc9114) ?_
          rintro _ w9115 ⟨o9116, A9119, c9120, A9123, c9124, A9127, c9128, rfl, st9117, f9118, f9121, hc9122, f9125, hc9126, f9129, hc9130⟩
          replace f6327 := f6327.st st9117 (by decide)
          replace f9106 := f9106.st st9117 (by decide)
          replace fg2 := fg2.st st9117 (by decide)
          replace hs := hs.locQ st9117 hob rfl
          have hk := hk.put 59 (.tuple #[]) rfl
          refine wpListIn_nil ?_
          refine then_n ?_
          refine wpIn_region_lit ?_
          refine x_run tab hk (k := 3) (lv := []) (ks := [0, 5, 13, 14, 15, 62]) (e' := [(0, .pointer (some ⟨bp0, 0, none⟩)), (5, .int .i64 ((p0.l).length : Int)), (13, .slice (some ad8698) (p1).length c6326), (14, .int .i64 ((p1).length : Int)), (15, .int .i64 x6329), (62, .pointer (some ((⟨bp0, 0, none⟩ : Addr).add 2)))]) rfl trivial fun a hk => ?_
          refine x_op hk rfl ?_
          refine op_store tab hk (t := 43) (v := .slice none 0 0) (b := bp0) (k := 2) (cs' := [.slice A9119 (t9113.l).length c9120, .slice A9123 (t9113.chains).length c9124, .slice none 0 0]) rfl rfl rfl rfl rfl rfl f9118 rfl rfl fun w9131 o9132 st9133 f9118_ => ?_
          replace f6327 := f6327.st st9133 (by decide)
          replace f9121 := f9121.st st9133 (by decide)
          replace f9125 := f9125.st st9133 (by decide)
          replace f9129 := f9129.st st9133 (by decide)
          replace fg2 := fg2.st st9133 (by decide)
          replace hs := hs.locQ st9133 hob rfl
          replace f9118 := f9118_
          refine wpListIn_nil ?_
          refine blk_n ?_
          refine then_n ?_
          exact ⟨o9132, A9119, c9120, t9113.l, A9123, c9124, t9113.chains, none, 0, ([] : List T46), (some ad8698), c6326, (by exact Kn.pick (ks := [0, 5, 13, 14, 15]) hk rfl), hs, f9121, f9125, (Ft.of_all (fun _ => Own.nil _ _ _) _ _ _), f6327, f9118, fg2, hc9122, hc9126, (by simp), hc6328, H⟩
      refine wpIn_block ?_
      refine x_loop (fun j_ a_ w_ => ∃ o9186 : Nat → Nat, ∃ A9187 : Option Addr, ∃ c9188 : Nat, ∃ l9189 : List (List T46), ∃ A9192 : Option Addr, ∃ c9193 : Nat, ∃ l9194 : List Int, ∃ A9197 : Option Addr, ∃ c9198 : Nat, ∃ l9199 : List T46, Kn 71 a_ [(0, .pointer (some ⟨bp0, 0, none⟩)), (5, .int .i64 ((p0.l).length : Int)), (7, .pointer (some ⟨bx8707, 0, none⟩)), (13, .slice (some ad8698) (p1).length c6326), (14, .int .i64 ((p1).length : Int)), (15, .int .i64 x6329)] ∧ St [2, 3, 4, 5] w oi w_ o9186 ∧ NRd dT65 (some ad8698) p1 w_ o9186 0 1 ∧ Ft (RdC ET77 A8699 ((rdD zT65 p1 x6329).Cells)) w_ o9186 1 ∧ Ft (Bx bx8707 66 [.slice A8699 ((rdD zT65 p1 x6329).Cells).length c8700, .bool ((rdD zT65 p1 x6329).Wrapped)]) w_ o9186 378 ∧ Ft (Bx bp0 61 [.slice A9187 (l9189).length c9188, .slice A9192 (l9194).length c9193, .slice A9197 (l9199).length c9198]) w_ o9186 2 ∧ NOwn (dRows ET46) 43 A9187 c9188 l9189 w_ o9186 3 1 ∧ Ft (Own (encInt .i64) 3 (.slice A9192 (l9194).length c9193) l9194) w_ o9186 4 ∧ Ft (Own ET46 47 (.slice A9197 (l9199).length c9198) l9199) w_ o9186 5 ∧ Ft (RdC (encInt .u32) (some ⟨2, 0, none⟩) glob2) w_ o9186 0 ∧ (l9189).length ≤ c9188 ∧ (l9194).length ≤ c9193 ∧ (l9199).length ≤ c9198 ∧ book_Book_Add_l6 K p1 x6329 lp7892 j_ l9189 l9194 l9199 = some r) (k := K) ⟨(fun b_ => R_100 (o8895 b_)), A6310, c6311, l6312, A6315, c6316, l6317, A8896, c8897, l8898, (by exact Kn.pick (ks := [0, 5, 7, 13, 14, 15]) hk rfl), (hs.relabM hob R_100 (by decide)), (f6327.relab R_100 rfl), (f8702.relab R_100 rfl), (f8708.relab R_100 rfl), (f900019.relab R_100 rfl), (f6313.relab R_100 rfl), (f6318.relab R_100 rfl), (f8899.relab R_100 rfl), (fg2.relab R_100 rfl), hc6314, hc6319, hc8900, H⟩ (fun _ _ z => z.elim fun _ z => z.elim fun _ z => z.elim fun _ z => z.elim fun _ z => z.elim fun _ z => z.elim fun _ z => z.elim fun _ z => z.elim fun _ z => z.elim fun _ z => z.elim fun _ z => z.elim fun _ z => z.elim fun _ z => z.elim fun _ z => z.elim fun _ z => z.elim fun _ z => z.elim fun _ z => z.elim fun _ z => z.elim fun _ z => z.elim fun _ z => z.elim fun _ z => z.elim fun _ z => z.elim fun _ z => z.elim fun _ z => absurd (show (none : Option (Int × T60)) = some r from z) (by simp)) ?_
      refine fun k9252 a w9251 z0 => z0.elim fun o9186 z1 => z1.elim fun A9187 z2 => z2.elim fun c9188 z3 => z3.elim fun l9189 z4 => z4.elim fun A9192 z5 => z5.elim fun c9193 z6 => z6.elim fun l9194 z7 => z7.elim fun A9197 z8 => z8.elim fun c9198 z9 => z9.elim fun l9199 z10 => z10.elim fun hk z11 => z11.elim fun hs z12 => z12.elim fun f6327 z13 => z13.elim fun f8702 z14 => z14.elim fun f8708 z15 => z15.elim fun f900019 z16 => z16.elim fun f9190 z17 => z17.elim fun f9195 z18 => z18.elim fun f9200 z19 => z19.elim fun fg2 z20 => z20.elim fun hc9191 z21 => z21.elim fun hc9196 z22 => z22.elim fun hc9201 H => ?_
      clear z0 z1 z2 z3 z4 z5 z6 z7 z8 z9 z10 z11 z12 z13 z14 z15 z16 z17 z18 z19 z20 z21 z22
      rw [book_Book_Add_l6] at H
      obtain ⟨lp9253, hlp9254⟩ : ∃ lp_, lp_ = book_Book_Add_l6 K p1 x6329 lp7892 k9252 := ⟨_, rfl⟩
      rw [← hlp9254] at H
      refine x_seq ?_
      refine x_seq ?_
      refine wpIn_region_lit ?_
      refine x_run tab hk (k := 6) (lv := [.slice A9197 (l9199).length c9198]) (ks := [0, 5, 7, 13, 14, 15, 34]) (e' := [(0, .pointer (some ⟨bp0, 0, none⟩)), (5, .int .i64 ((p0.l).length : Int)), (7, .pointer (some ⟨bx8707, 0, none⟩)), (13, .slice (some ad8698) (p1).length c6326), (14, .int .i64 ((p1).length : Int)), (15, .int .i64 x6329), (34, .bool (decide (((l9199).length : Int) ≥ (1024 : Int))))]) rfl ⟨(load1 tab rfl ((Bx.cell f900019.now 2).trans rfl)), trivial⟩ fun a hk => ?_
      refine wpListIn_nil ?_
      refine then_n ?_
      cases b9255 : (decide (((l9199).length : Int) ≥ (1024 : Int)))
      · rw [b9255] at hk H
        replace H := bifF H
        refine x_if hk (b := false) rfl ?_
        refine (show Code.wpIn _ _ _ _ _ _ _ from ?_)
        refine wpIn_exit ?_
        refine then_x ?_
        refine then_x ?_
        refine blk_x ?_
        refine then_n ?_
        exact ⟨(fun b_ => R_101 (o9186 b_)), A9187, c9188, l9189, A9192, c9193, l9194, A9197, c9198, l9199, (by exact Kn.pick (ks := [0, 5, 7, 13, 14, 15]) hk rfl), (hs.relabM hob R_101 (by decide)), (f6327.relab R_101 rfl), (f8702.relab R_101 rfl), (f8708.relab R_101 rfl), (f900019.relab R_101 rfl), (f9190.relab R_101 rfl), (f9195.relab R_101 rfl), (f9200.relab R_101 rfl), (fg2.relab R_101 rfl), hc9191, hc9196, hc9201, H⟩
      · rw [b9255] at hk H
        replace H := bifT H
        refine x_if hk (b := true) rfl ?_
        refine (show Code.wpIn _ _ _ _ _ _ _ from ?_)
        refine wpIn_skip ?_
        refine then_n ?_
        refine wpIn_block ?_
        refine x_seq ?_
        refine wpIn_region_lit ?_
        obtain ⟨q9256, H⟩ := ifS H
        obtain ⟨A9257, c9258, ak9260, f9259, hc9261⟩ := ask_take (P := Tryz.prog) tab (t := 43) rfl rfl f9200 hc9201 (k := .i64) 1024 (show 0 ≤ (1024 : Int) from by decide) q9256
        refine x_run tab hk (k := 6) (lv := [.slice A9197 (l9199).length c9198, .slice A9257 ((List.take (Int.toNat 1024) l9199)).length c9258]) (ks := [0, 5, 7, 13, 14, 15, 35, 40]) (e' := [(0, .pointer (some ⟨bp0, 0, none⟩)), (5, .int .i64 ((p0.l).length : Int)), (7, .pointer (some ⟨bx8707, 0, none⟩)), (13, .slice (some ad8698) (p1).length c6326), (14, .int .i64 ((p1).length : Int)), (15, .int .i64 x6329), (35, .pointer (some ⟨bp0, 0, none⟩)), (40, .slice A9257 ((List.take (Int.toNat 1024) l9199)).length c9258)]) rfl ⟨(load1 tab rfl ((Bx.cell f900019.now 2).trans rfl)), (ak9260 rfl rfl _), trivial⟩ fun a hk => ?_
        refine x_op hk rfl ?_
        obtain ⟨t9265, hc9266, H⟩ := bindS H
        refine op_call hk ent_15 (vs := [.pointer (some ⟨bp0, 0, none⟩), .slice A9257 ((List.take (Int.toNat 1024) l9199)).length c9258]) rfl (book_Book_close_calls K bp0 A9187 c9188 A9192 c9193 A9197 c9198 (⟨l9189, l9194, l9199⟩ : T60) A9257 c9258 (List.take (Int.toNat 1024) l9199) _ o9186 1 0 fg2 2 f900019 3 f9190 hc9191 4 f9195 hc9196 5 f9200 hc9201 (f9259.imp fun _ h_ => Own.rd h_) hc9261 (by decide) (by decide)   _ hc9266) ?_
        rintro _ w9267 ⟨o9268, A9271, c9272, A9275, c9276, A9279, c9280, rfl, st9269, f9270, f9273, hc9274, f9277, hc9278, f9281, hc9282⟩
        replace f6327 := f6327.st st9269 (by decide)
        replace f8702 := f8702.st st9269 (by decide)
        replace f8708 := f8708.st st9269 (by decide)
        replace f9200 := f9200.st st9269 (by decide)
        replace f9259 := f9259.st st9269 (by decide)
        replace fg2 := fg2.st st9269 (by decide)
        replace hs := hs.locQ st9269 hob rfl
        have hk := hk.put 41 (.tuple #[]) rfl
        refine wpListIn_nil ?_
        refine then_n ?_
        refine wpIn_region_lit ?_
        obtain ⟨q9283, H⟩ := ifS H
        obtain ⟨A9284, c9285, ak9287, f9286, hc9288⟩ := ask_cut (P := Tryz.prog) tab (t := 43) rfl rfl (f9281.imp fun _ h_ => Own.rd h_) hc9282 (some (.int .i64 1024)) none rfl ⟨(show 0 ≤ (1024 : Int) from by decide), (by have := q9283; omega), trivial⟩ (by have := (show 0 ≤ (1024 : Int) from by decide); have := q9283; omega) (Nat.le_refl _)
        refine x_run tab hk (k := 6) (lv := [.slice A9279 (t9265.begun).length c9280, .slice A9284 ((List.drop (Int.toNat 1024) (List.take (t9265.begun).length t9265.begun))).length c9285]) (ks := [0, 5, 7, 13, 14, 15, 42, 47]) (e' := [(0, .pointer (some ⟨bp0, 0, none⟩)), (5, .int .i64 ((p0.l).length : Int)), (7, .pointer (some ⟨bx8707, 0, none⟩)), (13, .slice (some ad8698) (p1).length c6326), (14, .int .i64 ((p1).length : Int)), (15, .int .i64 x6329), (42, .pointer (some ⟨bp0, 0, none⟩)), (47, .slice A9284 ((List.drop (Int.toNat 1024) (List.take (t9265.begun).length t9265.begun))).length c9285)]) rfl ⟨(load1 tab rfl ((Bx.cell f9270.now 2).trans rfl)), (ak9287 rfl rfl rfl _), trivial⟩ fun a hk => ?_
        refine x_op hk rfl ?_
        obtain ⟨t9292, hc9293, H⟩ := bindS H
        refine op_call hk ent_16 (vs := [.slice A9284 ((List.drop (Int.toNat 1024) (List.take (t9265.begun).length t9265.begun))).length c9285]) rfl (slices_Clone''_calls A9284 c9285 (List.drop (Int.toNat 1024) (List.take (t9265.begun).length t9265.begun)) _ o9268 _ f9286 hc9288 380  _ hc9293) ?_
        rintro _ w9294 ⟨o9295, A9297, c9298, rfl, st9296, f9299, hc9300⟩
        replace f6327 := f6327.st st9296 (by decide)
        replace f8702 := f8702.st st9296 (by decide)
        replace f8708 := f8708.st st9296 (by decide)
        replace f9270 := f9270.st st9296 (by decide)
        replace f9273 := f9273.st st9296 (by decide)
        replace f9277 := f9277.st st9296 (by decide)
        replace f9281 := f9281.st st9296 (by decide)
        replace f9286 := f9286.st st9296 (by decide)
        replace fg2 := fg2.st st9296 (by decide)
        replace hs := hs.locQ st9296 hob rfl
        have hk := hk.put 48 (.slice A9297 (t9292).length c9298) rfl
        refine x_run tab hk (k := 2) (lv := []) (ks := [0, 5, 7, 13, 14, 15, 48, 50]) (e' := [(0, .pointer (some ⟨bp0, 0, none⟩)), (5, .int .i64 ((p0.l).length : Int)), (7, .pointer (some ⟨bx8707, 0, none⟩)), (13, .slice (some ad8698) (p1).length c6326), (14, .int .i64 ((p1).length : Int)), (15, .int .i64 x6329), (48, .slice A9297 (t9292).length c9298), (50, .pointer (some ((⟨bp0, 0, none⟩ : Addr).add 2)))]) rfl trivial fun a hk => ?_
        refine x_op hk rfl ?_
        refine op_store tab hk (t := 43) (v := .slice A9297 (t9292).length c9298) (b := bp0) (k := 2) (cs' := [.slice A9271 (t9265.l).length c9272, .slice A9275 (t9265.chains).length c9276, .slice A9297 (t9292).length c9298]) rfl rfl rfl rfl rfl rfl f9270 rfl rfl fun w9301 o9302 st9303 f9270_ => ?_
        replace f6327 := f6327.st st9303 (by decide)
        replace f8702 := f8702.st st9303 (by decide)
        replace f8708 := f8708.st st9303 (by decide)
        replace f9273 := f9273.st st9303 (by decide)
        replace f9277 := f9277.st st9303 (by decide)
        replace f9281 := f9281.st st9303 (by decide)
        replace f9299 := f9299.st st9303 (by decide)
        replace fg2 := fg2.st st9303 (by decide)
        replace hs := hs.locQ st9303 hob rfl
        replace f9270 := f9270_
        refine wpListIn_nil ?_
        refine blk_n ?_
        refine then_n ?_
        exact ⟨k9252, Nat.le_refl _, (fun b_ => R_102 (o9302 b_)), A9271, c9272, t9265.l, A9275, c9276, t9265.chains, A9297, c9298, t9292, (by exact Kn.pick (ks := [0, 5, 7, 13, 14, 15]) hk rfl), (hs.relabM hob R_102 (by decide)), (f6327.relab R_102 rfl), (f8702.relab R_102 rfl), (f8708.relab R_102 rfl), (f9270.relab R_102 rfl), (f9273.relab R_102 rfl), (f9277.relab R_102 rfl), (f9299.relab R_102 rfl), (fg2.relab R_102 rfl), hc9274, hc9278, hc9300, (hlp9254 ▸ H)⟩
    obtain ⟨t9330, hc9331, H⟩ := bindS H
    obtain ⟨q9342, H⟩ := ifS H
    refine xd_begin (o := o8710) (fun W_ => (Bx bx8707 66 [.slice A8699 ((rdD zT65 p1 x6329).Cells).length c8700, .bool ((rdD zT65 p1 x6329).Wrapped)]) W_ ∧ True) mixed rfl rfl fun w9390 st9391 => ?_
    replace f6313 := f6313.st st9391 (by decide)
    replace f6318 := f6318.st st9391 (by decide)
    replace f6323 := f6323.st st9391 (by decide)
    replace f6327 := f6327.st st9391 (by decide)
    replace f8702 := f8702.st st9391 (by decide)
    replace f8708 := f8708.st st9391 (by decide)
    replace f900019 := f900019.st st9391 (by decide)
    replace fg2 := fg2.st st9391 (by decide)
    replace hs := hs.locQ st9391 hob rfl
    refine xd_abs fun G hG => ?_
    have N9397 : ∀ (a_ : Act) (w_ : World), (∃ o9395 : Nat → Nat, Kn 71 a_ [(0, .pointer (some ⟨bp0, 0, none⟩)), (5, .int .i64 ((p0.l).length : Int)), (7, .pointer (some ⟨bx8707, 0, none⟩)), (13, .slice (some ad8698) (p1).length c6326), (14, .int .i64 ((p1).length : Int)), (15, .int .i64 x6329), (19, .pointer (some ⟨bp0, 0, none⟩)), (23, .slice A6320 (l6322).length c6321), (24, .agg #[.slice A8699 ((rdD zT65 p1 x6329).Cells).length c8700, .bool ((rdD zT65 p1 x6329).Wrapped)])] ∧ St [2, 3, 4, 5] w oi w_ o9395 ∧ NOwn (dRows ET46) 43 A6310 c6311 l6312 w_ o9395 3 1 ∧ Ft (Own (encInt .i64) 3 (.slice A6315 (l6317).length c6316) l6317) w_ o9395 4 ∧ Ft (Own ET46 47 (.slice A6320 (l6322).length c6321) l6322) w_ o9395 5 ∧ NRd dT65 (some ad8698) p1 w_ o9395 0 1 ∧ Ft (RdC ET77 A8699 ((rdD zT65 p1 x6329).Cells)) w_ o9395 1 ∧ Ft (Bx bx8707 66 [.slice A8699 ((rdD zT65 p1 x6329).Cells).length c8700, .bool ((rdD zT65 p1 x6329).Wrapped)]) w_ o9395 385 ∧ Ft (Bx bp0 61 [.slice A6310 (l6312).length c6311, .slice A6315 (l6317).length c6316, .slice A6320 (l6322).length c6321]) w_ o9395 2 ∧ Ft (RdC (encInt .u32) (some ⟨2, 0, none⟩) glob2) w_ o9395 0) → G 5 #[true, true, true, true, true, true, false, false, false, false, false] a_ w_ := by
      rintro a w9396 ⟨o9395, hk, hs, f6313, f6318, f6323, f6327, f8702, f8708, f900019, fg2⟩
      refine xd_of hG ?_
      refine xd_op hk (i := 6) (by kernel_rfl) rfl rfl ?_
      refine op_call hk ent_14 (vs := [.agg #[.slice A8699 ((rdD zT65 p1 x6329).Cells).length c8700, .bool ((rdD zT65 p1 x6329).Wrapped)]]) rfl (row_Row_Glyphs_calls K A8699 c8700 (rdD zT65 p1 x6329) _ o9395 _ f8702 hc8703 386  _ hc9331) ?_
      rintro _ w9401 ⟨o9402, A9404, c9405, rfl, st9403, f9406, hc9407⟩
      replace f6313 := f6313.st st9403 (by decide)
      replace f6318 := f6318.st st9403 (by decide)
      replace f6323 := f6323.st st9403 (by decide)
      replace f6327 := f6327.st st9403 (by decide)
      replace f8702 := f8702.st st9403 (by decide)
      replace f8708 := f8708.st st9403 (by decide)
      replace f900019 := f900019.st st9403 (by decide)
      replace fg2 := fg2.st st9403 (by decide)
      replace hs := hs.locQ st9403 hob rfl
      have hk := hk.put 25 (.slice A9404 (t9330).length c9405) rfl
      refine ⟨.inr ⟨f8708.now, trivial⟩, ?_⟩
      refine xd_op hk (i := 7) (by kernel_rfl) rfl rfl ?_
      refine op_append (o := o9402) (E := ET46) (xs := l6322) (ys := t9330) tab hk rfl rfl rfl rfl rfl rfl rfl f6323 (Own.rd f9406.now) q9342 fun A9411 c9412 w9408 o9409 st9410 f9413 hc9414 => ?_
      replace f6313 := f6313.st st9410 (by decide)
      replace f6318 := f6318.st st9410 (by decide)
      replace f6327 := f6327.st st9410 (by decide)
      replace f8702 := f8702.st st9410 (by decide)
      replace f8708 := f8708.st st9410 (by decide)
      replace f900019 := f900019.st st9410 (by decide)
      replace f9406 := f9406.st st9410 (by decide)
      replace fg2 := fg2.st st9410 (by decide)
      replace hs := hs.locQ st9410 hob rfl
      have hk := hk.put 26 (.slice A9411 ((l6322 ++ t9330)).length c9412) rfl
      refine ⟨.inr ⟨f8708.now, trivial⟩, ?_⟩
      refine xd_take tab hk (k := 1) (is := [8, 9]) (ls' := #[true, true, true, true, true, true, true, true, true, true, false]) (lv := []) (ks := [0, 5, 7, 13, 14, 15, 26, 28]) (e' := [(0, .pointer (some ⟨bp0, 0, none⟩)), (5, .int .i64 ((p0.l).length : Int)), (7, .pointer (some ⟨bx8707, 0, none⟩)), (13, .slice (some ad8698) (p1).length c6326), (14, .int .i64 ((p1).length : Int)), (15, .int .i64 x6329), (26, .slice A9411 ((l6322 ++ t9330)).length c9412), (28, .pointer (some ((⟨bp0, 0, none⟩ : Addr).add 2)))]) (by kernel_rfl) rfl rfl (by kernel_rfl) (np_then (np_then (np_blk (np_then (np_then (np_blk (np_then np_body))))))) ⟨f8708.now, trivial⟩ (fun W_ hS => trivial) fun a hk => ?_
      refine xd_op hk (i := 10) (by kernel_rfl) rfl rfl ?_
      refine op_store tab hk (t := 43) (v := .slice A9411 ((l6322 ++ t9330)).length c9412) (b := bp0) (k := 2) (cs' := [.slice A6310 (l6312).length c6311, .slice A6315 (l6317).length c6316, .slice A9411 ((l6322 ++ t9330)).length c9412]) rfl rfl rfl rfl rfl rfl f900019 rfl rfl fun w9415 o9416 st9417 f900019_ => ?_
      replace f6313 := f6313.st st9417 (by decide)
      replace f6318 := f6318.st st9417 (by decide)
      replace f6327 := f6327.st st9417 (by decide)
      replace f8702 := f8702.st st9417 (by decide)
      replace f8708 := f8708.st st9417 (by decide)
      replace f9406 := f9406.st st9417 (by decide)
      replace f9413 := f9413.st st9417 (by decide)
      replace fg2 := fg2.st st9417 (by decide)
      replace hs := hs.locQ st9417 hob rfl
      replace f900019 := f900019_
      refine ⟨.inr ⟨f8708.now, trivial⟩, ?_⟩
      refine xd_done (by kernel_rfl) ?_
      refine then_n ?_
      exact ⟨(fun b_ => R_103 (o9416 b_)), A9411, c9412, (l6322 ++ t9330), (by exact Kn.pick (ks := [0, 5, 7, 13, 14, 15]) hk rfl), (hs.relabM hob R_103 (by decide)), (f6313.relab R_103 rfl), (f6318.relab R_103 rfl), (f6327.relab R_103 rfl), (f8702.relab R_103 rfl), (f8708.relab R_103 rfl), (f9413.relab R_103 rfl), (f900019.relab R_103 rfl), (fg2.relab R_103 rfl), hc9414, H⟩
    have N9443 : ∀ (a_ : Act) (w_ : World), (∃ o9437 : Nat → Nat, ∃ A9438 : Option Addr, ∃ c9439 : Nat, Kn 71 a_ [(0, .pointer (some ⟨bp0, 0, none⟩)), (5, .int .i64 ((p0.l).length : Int)), (7, .pointer (some ⟨bx8707, 0, none⟩)), (13, .slice (some ad8698) (p1).length c6326), (14, .int .i64 ((p1).length : Int)), (15, .int .i64 x6329), (19, .pointer (some ⟨bp0, 0, none⟩)), (22, .pointer (some ((⟨bp0, 0, none⟩ : Addr).add 2))), (25, .slice A9438 (t9330).length c9439)] ∧ St [2, 3, 4, 5] w oi w_ o9437 ∧ NOwn (dRows ET46) 43 A6310 c6311 l6312 w_ o9437 3 1 ∧ Ft (Own (encInt .i64) 3 (.slice A6315 (l6317).length c6316) l6317) w_ o9437 4 ∧ Ft (Own ET46 47 (.slice A6320 (l6322).length c6321) l6322) w_ o9437 5 ∧ NRd dT65 (some ad8698) p1 w_ o9437 0 1 ∧ Ft (RdC ET77 A8699 ((rdD zT65 p1 x6329).Cells)) w_ o9437 1 ∧ Ft (Bx bx8707 66 [.slice A8699 ((rdD zT65 p1 x6329).Cells).length c8700, .bool ((rdD zT65 p1 x6329).Wrapped)]) w_ o9437 388 ∧ Ft (Bx bp0 61 [.slice A6310 (l6312).length c6311, .slice A6315 (l6317).length c6316, .slice A6320 (l6322).length c6321]) w_ o9437 2 ∧ Ft (Own ET46 47 (.slice A9438 (t9330).length c9439) t9330) w_ o9437 389 ∧ Ft (RdC (encInt .u32) (some ⟨2, 0, none⟩) glob2) w_ o9437 0 ∧ (t9330).length ≤ c9439) → G 5 #[true, true, true, true, false, true, true, false, false, false, false] a_ w_ := by
      refine fun a w9442 z0 => z0.elim fun o9437 z1 => z1.elim fun A9438 z2 => z2.elim fun c9439 z3 => z3.elim fun hk z4 => z4.elim fun hs z5 => z5.elim fun f6313 z6 => z6.elim fun f6318 z7 => z7.elim fun f6323 z8 => z8.elim fun f6327 z9 => z9.elim fun f8702 z10 => z10.elim fun f8708 z11 => z11.elim fun f900019 z12 => z12.elim fun f9440 z13 => z13.elim fun fg2 hc9441 => ?_
      clear z0 z1 z2 z3 z4 z5 z6 z7 z8 z9 z10 z11 z12 z13
      refine xd_of hG ?_
      refine xd_op hk (i := 4) (by kernel_rfl) rfl rfl ?_
      refine op_quiet tab hk (lv := [.slice A6320 (l6322).length c6321]) (v := .slice A6320 (l6322).length c6321) rfl ⟨(load1 tab rfl ((Bx.cell f900019.now 2).trans rfl)), trivial⟩ ?_
      have hk := hk.put 23 (.slice A6320 (l6322).length c6321) rfl
      refine ⟨.inr ⟨f8708.now, trivial⟩, ?_⟩
      refine xd_op hk (i := 7) (by kernel_rfl) rfl rfl ?_
      refine op_append (o := o9437) (E := ET46) (xs := l6322) (ys := t9330) tab hk rfl rfl rfl rfl rfl rfl rfl f6323 (Own.rd f9440.now) q9342 fun A9447 c9448 w9444 o9445 st9446 f9449 hc9450 => ?_
      replace f6313 := f6313.st st9446 (by decide)
      replace f6318 := f6318.st st9446 (by decide)
      replace f6327 := f6327.st st9446 (by decide)
      replace f8702 := f8702.st st9446 (by decide)
      replace f8708 := f8708.st st9446 (by decide)
      replace f900019 := f900019.st st9446 (by decide)
      replace f9440 := f9440.st st9446 (by decide)
      replace fg2 := fg2.st st9446 (by decide)
      replace hs := hs.locQ st9446 hob rfl
      have hk := hk.put 26 (.slice A9447 ((l6322 ++ t9330)).length c9448) rfl
      refine ⟨.inr ⟨f8708.now, trivial⟩, ?_⟩
      refine xd_take tab hk (k := 1) (is := [8, 9]) (ls' := #[true, true, true, true, true, true, true, true, true, true, false]) (lv := []) (ks := [0, 5, 7, 13, 14, 15, 26, 28]) (e' := [(0, .pointer (some ⟨bp0, 0, none⟩)), (5, .int .i64 ((p0.l).length : Int)), (7, .pointer (some ⟨bx8707, 0, none⟩)), (13, .slice (some ad8698) (p1).length c6326), (14, .int .i64 ((p1).length : Int)), (15, .int .i64 x6329), (26, .slice A9447 ((l6322 ++ t9330)).length c9448), (28, .pointer (some ((⟨bp0, 0, none⟩ : Addr).add 2)))]) (by kernel_rfl) rfl rfl (by kernel_rfl) (np_then (np_then (np_blk (np_then (np_then (np_blk (np_then np_body))))))) ⟨f8708.now, trivial⟩ (fun W_ hS => trivial) fun a hk => ?_
      refine xd_op hk (i := 10) (by kernel_rfl) rfl rfl ?_
      refine op_store tab hk (t := 43) (v := .slice A9447 ((l6322 ++ t9330)).length c9448) (b := bp0) (k := 2) (cs' := [.slice A6310 (l6312).length c6311, .slice A6315 (l6317).length c6316, .slice A9447 ((l6322 ++ t9330)).length c9448]) rfl rfl rfl rfl rfl rfl f900019 rfl rfl fun w9451 o9452 st9453 f900019_ => ?_
      replace f6313 := f6313.st st9453 (by decide)
      replace f6318 := f6318.st st9453 (by decide)
      replace f6327 := f6327.st st9453 (by decide)
      replace f8702 := f8702.st st9453 (by decide)
      replace f8708 := f8708.st st9453 (by decide)
      replace f9440 := f9440.st st9453 (by decide)
      replace f9449 := f9449.st st9453 (by decide)
      replace fg2 := fg2.st st9453 (by decide)
      replace hs := hs.locQ st9453 hob rfl
      replace f900019 := f900019_
      refine ⟨.inr ⟨f8708.now, trivial⟩, ?_⟩
      refine xd_done (by kernel_rfl) ?_
      refine then_n ?_
      exact ⟨(fun b_ => R_104 (o9452 b_)), A9447, c9448, (l6322 ++ t9330), (by exact Kn.pick (ks := [0, 5, 7, 13, 14, 15]) hk rfl), (hs.relabM hob R_104 (by decide)), (f6313.relab R_104 rfl), (f6318.relab R_104 rfl), (f6327.relab R_104 rfl), (f8702.relab R_104 rfl), (f8708.relab R_104 rfl), (f9449.relab R_104 rfl), (f900019.relab R_104 rfl), (fg2.relab R_104 rfl), hc9450, H⟩
    refine xd_of hG ?_
    refine xd_take tab hk (k := 6) (is := [0, 1, 2, 3, 5]) (ls' := #[true, true, true, true, false, true, false, false, false, false, false]) (lv := [.agg #[.slice A8699 ((rdD zT65 p1 x6329).Cells).length c8700, .bool ((rdD zT65 p1 x6329).Wrapped)]]) (ks := [0, 5, 7, 13, 14, 15, 19, 22, 24]) (e' := [(0, .pointer (some ⟨bp0, 0, none⟩)), (5, .int .i64 ((p0.l).length : Int)), (7, .pointer (some ⟨bx8707, 0, none⟩)), (13, .slice (some ad8698) (p1).length c6326), (14, .int .i64 ((p1).length : Int)), (15, .int .i64 x6329), (19, .pointer (some ⟨bp0, 0, none⟩)), (22, .pointer (some ((⟨bp0, 0, none⟩ : Addr).add 2))), (24, .agg #[.slice A8699 ((rdD zT65 p1 x6329).Cells).length c8700, .bool ((rdD zT65 p1 x6329).Wrapped)])]) (by kernel_rfl) rfl rfl (by kernel_rfl) (np_then (np_then (np_blk (np_then (np_then (np_blk (np_then np_body))))))) ⟨f8708.now, trivial⟩ (fun W_ hS => ⟨(load_box tab rfl rfl hS.1 (k := 0) rfl rfl), trivial⟩) fun a hk => ?_
    refine xd_each [4, 6] (by kernel_rfl) rfl ⟨?_, ?_, trivial⟩
    · refine xd_one hk rfl rfl ?_
      refine op_quiet tab hk (lv := [.slice A6320 (l6322).length c6321]) (v := .slice A6320 (l6322).length c6321) rfl ⟨(load1 tab rfl ((Bx.cell f900019.now 2).trans rfl)), trivial⟩ ?_
      have hk := hk.put 23 (.slice A6320 (l6322).length c6321) rfl
      refine ⟨.inr ⟨f8708.now, trivial⟩, ?_⟩
      exact xd_to hG rfl (N9397 _ _ ⟨(fun b_ => R_105 (o8710 b_)), (by exact Kn.pick (ks := [0, 5, 7, 13, 14, 15, 19, 23, 24]) hk rfl), (hs.relabM hob R_105 (by decide)), (f6313.relab R_105 rfl), (f6318.relab R_105 rfl), (f6323.relab R_105 rfl), (f6327.relab R_105 rfl), (f8702.relab R_105 rfl), (f8708.relab R_105 rfl), (f900019.relab R_105 rfl), (fg2.relab R_105 rfl)⟩)
    · refine xd_one hk rfl rfl ?_
      refine op_call hk ent_14 (vs := [.agg #[.slice A8699 ((rdD zT65 p1 x6329).Cells).length c8700, .bool ((rdD zT65 p1 x6329).Wrapped)]]) rfl (row_Row_Glyphs_calls K A8699 c8700 (rdD zT65 p1 x6329) _ o8710 _ f8702 hc8703 387  _ hc9331) ?_
      rintro _ w9421 ⟨o9422, A9424, c9425, rfl, st9423, f9426, hc9427⟩
      replace f6313 := f6313.st st9423 (by decide)
      replace f6318 := f6318.st st9423 (by decide)
      replace f6323 := f6323.st st9423 (by decide)
      replace f6327 := f6327.st st9423 (by decide)
      replace f8702 := f8702.st st9423 (by decide)
      replace f8708 := f8708.st st9423 (by decide)
      replace f900019 := f900019.st st9423 (by decide)
      replace fg2 := fg2.st st9423 (by decide)
      replace hs := hs.locQ st9423 hob rfl
      have hk := hk.put 25 (.slice A9424 (t9330).length c9425) rfl
      refine ⟨.inr ⟨f8708.now, trivial⟩, ?_⟩
      exact xd_to hG rfl (N9443 _ _ ⟨(fun b_ => R_106 (o9422 b_)), A9424, c9425, (by exact Kn.pick (ks := [0, 5, 7, 13, 14, 15, 19, 22, 25]) hk rfl), (hs.relabM hob R_106 (by decide)), (f6313.relab R_106 rfl), (f6318.relab R_106 rfl), (f6323.relab R_106 rfl), (f6327.relab R_106 rfl), (f8702.relab R_106 rfl), (f8708.relab R_106 rfl), (f900019.relab R_106 rfl), (f9426.relab R_106 rfl), (fg2.relab R_106 rfl), hc9427⟩)

/-! (*tidewrack/book.Book).Len -/
abbrev R_107 (LF : Nat) (l_ : Nat) : Nat := if l_ = 1 then LF else 0
theorem book_Book_Len_calls (bp0 : Nat) (Ap0_0 : Option Addr) (cp0_0 : Nat) (Ap0_1 : Option Addr) (cp0_1 : Nat) (Ap0_2 : Option Addr) (cp0_2 : Nat) (p0 : T60) (w : World) (o : Nat → Nat) (LF : Nat) (Lp0 : Nat) (hp0 : Ft (Bx bp0 61 [.slice Ap0_0 (p0.l).length cp0_0, .slice Ap0_1 (p0.chains).length cp0_1, .slice Ap0_2 (p0.begun).length cp0_2]) w o Lp0) (Lp0_0 : Nat) (hp0_0 : NRd (dRows ET46) Ap0_0 p0.l w o Lp0_0 LF) (hcp0_0 : (p0.l).length ≤ cp0_0) (Lp0_1 : Nat) (hp0_1 : Ft (RdC (encInt .i64) Ap0_1 p0.chains) w o Lp0_1) (hcp0_1 : (p0.chains).length ≤ cp0_1) (Lp0_2 : Nat) (hp0_2 : Ft (RdC ET46 Ap0_2 p0.begun) w o Lp0_2) (hcp0_2 : (p0.begun).length ≤ cp0_2) (hd0 : ([LF] : List Nat).Nodup) (hd1 : Lp0_0 ∉ [LF]) (hd2 : Lp0_1 ∉ [LF]) (hd3 : Lp0_2 ∉ [LF]) (hd4 : Lp0 ∉ [LF]) (r : Int) (H : book_Book_Len p0 = some r) :
    Calls Tryz.prog 9 #[.pointer (some ⟨bp0, 0, none⟩)] w (Ret fun v_ w' => ∃ o' : Nat → Nat, v_ = .int .i64 r ∧ St [] w o w' o') := by
  refine x_enter (vs := [.pointer (some ⟨bp0, 0, none⟩)]) Tryz.func9 rfl rfl rfl fun a hk => ?_
  obtain ⟨oi, hs0, h0, h1, hob, hoz, hoa⟩ := St.startM2 w o (m := 1) hd0 rfl
  have hs := hs0 []
  have f900000 := hp0_0.conv (fun P_ => h0 P_ _ hd1) (fun _ h_ => h1 0 1 h_ rfl rfl)
  have f900001 := h0 _ _ hd2 hp0_1
  have f900002 := h0 _ _ hd3 hp0_2
  have f900019 := h0 _ _ hd4 hp0
  clear h0 h1 hs0
  rw [book_Book_Len] at H
  refine x_seq ?_
  refine wpIn_region_lit ?_
  refine x_run tab hk (k := 1) (lv := []) (ks := [0]) (e' := [(0, .pointer (some ⟨bp0, 0, none⟩))]) rfl trivial fun a hk => ?_
  refine wpListIn_nil ?_
  refine then_n ?_
  refine x_seq ?_
  refine wpIn_region_lit ?_
  refine x_run tab hk (k := 6) (lv := [.slice Ap0_0 (p0.l).length cp0_0]) (ks := [2]) (e' := [(2, .int .i64 ((p0.l).length : Int))]) rfl ⟨(load1 tab rfl ((Bx.cell f900019.now 0).trans rfl)), trivial⟩ fun a hk => ?_
  refine wpListIn_nil ?_
  refine then_n ?_
  refine wpIn_ret ?_
  obtain rfl := Option.some.inj H
  exact x_retG hk (rs := [.tmp 2]) (vs := [.int .i64 ((p0.l).length : Int)]) rfl ⟨rfl, trivial⟩ ⟨cl w oi o [] (R_107 LF) oi, rfl, hs.closeF (Lm := []) (Sh := []) hoa rfl (R_107 LF)⟩

/-! (*tidewrack/book.Book).Line -/
abbrev R_108 (LF R0 : Nat) (l_ : Nat) : Nat := if l_ = 1 then LF else if l_ = 2 then R0 else 0
abbrev R_109 (LF : Nat) (l_ : Nat) : Nat := if l_ = 1 then LF else 0
set_option maxHeartbeats 4000000 in
set_option maxRecDepth 20000 in
theorem book_Book_Line_calls (bp0 : Nat) (Ap0_0 : Option Addr) (cp0_0 : Nat) (Ap0_1 : Option Addr) (cp0_1 : Nat) (Ap0_2 : Option Addr) (cp0_2 : Nat) (p0 : T60) (p1 : Int) (w : World) (o : Nat → Nat) (LF : Nat) (Lp0 : Nat) (hp0 : Ft (Bx bp0 61 [.slice Ap0_0 (p0.l).length cp0_0, .slice Ap0_1 (p0.chains).length cp0_1, .slice Ap0_2 (p0.begun).length cp0_2]) w o Lp0) (Lp0_0 : Nat) (hp0_0 : NRd (dRows ET46) Ap0_0 p0.l w o Lp0_0 LF) (hcp0_0 : (p0.l).length ≤ cp0_0) (Lp0_1 : Nat) (hp0_1 : Ft (RdC (encInt .i64) Ap0_1 p0.chains) w o Lp0_1) (hcp0_1 : (p0.chains).length ≤ cp0_1) (Lp0_2 : Nat) (hp0_2 : Ft (RdC ET46 Ap0_2 p0.begun) w o Lp0_2) (hcp0_2 : (p0.begun).length ≤ cp0_2) (hd0 : ([LF] : List Nat).Nodup) (hd1 : Lp0_0 ∉ [LF]) (hd2 : Lp0_1 ∉ [LF]) (hd3 : Lp0_2 ∉ [LF]) (hd4 : Lp0 ∉ [LF]) (R0 : Nat) (r : (List T46) × Bool) (H : book_Book_Line p0 p1 = some r) :
    Calls Tryz.prog 10 #[.pointer (some ⟨bp0, 0, none⟩), .int .i64 p1] w (Ret fun v_ w' => ∃ o' : Nat → Nat, ∃ A0 : Option Addr, ∃ c0 : Nat, v_ = .tuple #[.slice A0 (r.1).length c0, .bool r.2] ∧ St [] w o w' o' ∧ Ft (Own ET46 47 (.slice A0 (r.1).length c0) r.1) w' o' R0 ∧ (r.1).length ≤ c0) := by
  refine x_enter (vs := [.pointer (some ⟨bp0, 0, none⟩), .int .i64 p1]) Tryz.func10 rfl rfl rfl fun a hk => ?_
  obtain ⟨oi, hs0, h0, h1, hob, hoz, hoa⟩ := St.startM2 w o (m := 1) hd0 rfl
  have hs := hs0 []
  have f900000 := hp0_0.conv (fun P_ => h0 P_ _ hd1) (fun _ h_ => h1 0 1 h_ rfl rfl)
  have f900001 := h0 _ _ hd2 hp0_1
  have f900002 := h0 _ _ hd3 hp0_2
  have f900019 := h0 _ _ hd4 hp0
  clear h0 h1 hs0
  rw [book_Book_Line] at H
  refine x_seq ?_
  refine wpIn_region_lit ?_
  refine x_run tab hk (k := 2) (lv := []) (ks := [0, 1]) (e' := [(0, .pointer (some ⟨bp0, 0, none⟩)), (1, .int .i64 p1)]) rfl trivial fun a hk => ?_
  refine wpListIn_nil ?_
  refine then_n ?_
  refine x_mid (fun a_ w_ => ∃ o16 : Nat → Nat, Kn 25 a_ [(0, .pointer (some ⟨bp0, 0, none⟩)), (1, .int .i64 p1)] ∧ St [] w oi w_ o16 ∧ NRd (dRows ET46) Ap0_0 p0.l w_ o16 0 1 ∧ Ft (RdC (encInt .i64) Ap0_1 p0.chains) w_ o16 0 ∧ Ft (RdC ET46 Ap0_2 p0.begun) w_ o16 0 ∧ Ft (Bx bp0 61 [.slice Ap0_0 (p0.l).length cp0_0, .slice Ap0_1 (p0.chains).length cp0_1, .slice Ap0_2 (p0.begun).length cp0_2]) w_ o16 0 ∧ book_Book_Line_j1 p0 p1 = some r) ?_ ?_
  rotate_left
  · rintro a w17 ⟨o16, hk, hs, f900000, f900001, f900002, f900019, H⟩
    rw [book_Book_Line_j1] at H
    refine x_seq ?_
    refine wpIn_region_lit ?_
    obtain ⟨q18, H⟩ := ifS H
    obtain ⟨ad19, hAad19⟩ := NRd.addr f900000 q18
    have hk_C := hk
    have f900000_C := f900000
    have f900001_C := f900001
    have f900002_C := f900002
    have f900019_C := f900019
    subst hAad19
    have hk := hk_C
    clear hk_C
    have f900000 := f900000_C
    clear f900000_C
    have f900001 := f900001_C
    clear f900001_C
    have f900002 := f900002_C
    clear f900002_C
    have f900019 := f900019_C
    clear f900019_C
    obtain ⟨A20, c21, f22, f23, hc24⟩ := NRd.row f900000 (P := Tryz.prog) tab (t := 43) rfl (i := p1) q18
    refine x_run tab hk (k := 7) (lv := [.slice (some ad19) (p0.l).length cp0_0, .slice A20 ((rdD [] p0.l p1)).length c21]) (ks := [23]) (e' := [(23, .slice A20 ((rdD [] p0.l p1)).length c21)]) rfl ⟨(load1 tab rfl ((Bx.cell f900019.now 0).trans rfl)), q18, f22.now, trivial⟩ fun a hk => ?_
    refine x_op hk rfl ?_
    obtain ⟨t28, hc29, H⟩ := bindS H
    refine op_call hk ent_16 (vs := [.slice A20 ((rdD [] p0.l p1)).length c21]) rfl (slices_Clone''_calls A20 c21 (rdD [] p0.l p1) _ o16 _ f23 hc24 2  _ hc29) ?_
    rintro _ w30 ⟨o31, A33, c34, rfl, st32, f35, hc36⟩
    replace f23 := f23.st st32 (by decide)
    replace f900000 := f900000.st st32 (by decide)
    replace f900001 := f900001.st st32 (by decide)
    replace f900002 := f900002.st st32 (by decide)
    replace f900019 := f900019.st st32 (by decide)
    replace hs := hs.locQ st32 hob rfl
    have hk := hk.put 24 (.slice A33 (t28).length c34) rfl
    refine x_run tab hk (k := 2) (lv := []) (ks := [4, 5]) (e' := [(4, .slice A33 (t28).length c34), (5, .bool true)]) rfl trivial fun a hk => ?_
    refine wpListIn_nil ?_
    refine then_n ?_
    refine wpIn_ret ?_
    obtain rfl := Option.some.inj H
    exact x_retG hk (rs := [.tmp 4, .tmp 5]) (vs := [.slice A33 (t28).length c34, .bool true]) rfl ⟨rfl, rfl, trivial⟩ ⟨cl w oi o [] (R_108 LF R0) o31, A33, c34, rfl, hs.closeF (Lm := []) (Sh := []) hoa rfl (R_108 LF R0), hs.closeM_ft (o := o) (ρ := R_108 LF R0) f35 (lab_none hob rfl) rfl, hc36⟩
  refine x_mid (fun a_ w_ => ∃ o44 : Nat → Nat, ∃ x45 : Bool, Kn 25 a_ [(0, .pointer (some ⟨bp0, 0, none⟩)), (1, .int .i64 p1), (16, .bool x45)] ∧ St [] w oi w_ o44 ∧ NRd (dRows ET46) Ap0_0 p0.l w_ o44 0 1 ∧ Ft (RdC (encInt .i64) Ap0_1 p0.chains) w_ o44 0 ∧ Ft (RdC ET46 Ap0_2 p0.begun) w_ o44 0 ∧ Ft (Bx bp0 61 [.slice Ap0_0 (p0.l).length cp0_0, .slice Ap0_1 (p0.chains).length cp0_1, .slice Ap0_2 (p0.begun).length cp0_2]) w_ o44 0 ∧ book_Book_Line_j2 p0 p1 x45 = some r) ?_ ?_
  rotate_left
  · rintro a w46 ⟨o44, x45, hk, hs, f900000, f900001, f900002, f900019, H⟩
    rw [book_Book_Line_j2] at H
    cases b47 : x45
    · rw [b47] at hk H
      replace H := bifF H
      refine x_if hk (b := false) rfl ?_
      refine (show Code.wpIn _ _ _ _ _ _ _ from ?_)
      refine wpIn_skip ?_
      refine then_n ?_
      exact ⟨o44, (by exact Kn.pick (ks := [0, 1]) hk rfl), hs, f900000, f900001, f900002, f900019, H⟩
    · rw [b47] at hk H
      replace H := bifT H
      refine x_if hk (b := true) rfl ?_
      refine (show Code.wpIn _ _ _ _ _ _ _ from ?_)
      refine x_seq ?_
      refine wpIn_region_lit ?_
      refine x_run tab hk (k := 2) (lv := []) (ks := [4, 5]) (e' := [(4, .slice none 0 0), (5, .bool false)]) rfl trivial fun a hk => ?_
      refine wpListIn_nil ?_
      refine then_n ?_
      refine wpIn_ret ?_
      refine then_r ?_
      obtain rfl := Option.some.inj H
      exact x_retG hk (rs := [.tmp 4, .tmp 5]) (vs := [.slice none 0 0, .bool false]) rfl ⟨rfl, rfl, trivial⟩ ⟨cl w oi o [] (R_109 LF) o44, none, 0, rfl, hs.closeF (Lm := []) (Sh := []) hoa rfl (R_109 LF), (Ft.of_all (fun _ => Own.nil _ _ _) _ _ _), (by simp)⟩
  refine wpIn_region_lit ?_
  refine x_run tab hk (k := 3) (lv := []) (ks := [0, 1, 8]) (e' := [(0, .pointer (some ⟨bp0, 0, none⟩)), (1, .int .i64 p1), (8, .bool (decide (p1 < (0 : Int))))]) rfl trivial fun a hk => ?_
  cases b48 : (decide (p1 < (0 : Int)))
  · rw [b48] at hk H
    replace H := bifF H
    refine x_run tab hk (k := 8) (lv := [.slice Ap0_0 (p0.l).length cp0_0]) (ks := [0, 1, 16]) (e' := [(0, .pointer (some ⟨bp0, 0, none⟩)), (1, .int .i64 p1), (16, .bool (decide (p1 ≥ ((p0.l).length : Int))))]) rfl ⟨(load1 tab rfl ((Bx.cell f900019.now 0).trans rfl)), trivial⟩ fun a hk => ?_
    refine wpListIn_nil ?_
    refine then_n ?_
    exact ⟨oi, (decide (p1 ≥ ((p0.l).length : Int))), (by exact Kn.pick (ks := [0, 1, 16]) hk rfl), hs, f900000, f900001, f900002, f900019, H⟩
  · rw [b48] at hk H
    replace H := bifT H
    refine x_run tab hk (k := 8) (lv := []) (ks := [0, 1, 16]) (e' := [(0, .pointer (some ⟨bp0, 0, none⟩)), (1, .int .i64 p1), (16, .bool true)]) rfl trivial fun a hk => ?_
    refine wpListIn_nil ?_
    refine then_n ?_
    exact ⟨oi, true, (by exact Kn.pick (ks := [0, 1, 16]) hk rfl), hs, f900000, f900001, f900002, f900019, H⟩

end Go.Proofs.YtpciioffkjpieaaGreatDoor
