/- Walks, printed by an own program: the machine's calls compute the plain functions. -/
import Derived.Test.YtpciioffkjpieaaGreatDoorW4
set_option linter.unusedVariables false
set_option linter.unusedSimpArgs false
namespace Go.Proofs.YtpciioffkjpieaaGreatDoor
open Go Go.Proofs.XC
/-! tidewrack/tidewracktop.TidewrackLines -/
abbrev R_110 (l_ : Nat) : Nat := if l_ = 1177 then 1393 else if l_ = 1178 then 1394 else if l_ = 1179 then 1395 else if l_ = 1180 then 1396 else if l_ = 1181 then 1397 else l_
abbrev R_111 (l_ : Nat) : Nat := if l_ = 1469 then 1393 else if l_ = 1470 then 1394 else if l_ = 1471 then 1395 else if l_ = 1472 then 1396 else if l_ = 1473 then 1397 else l_
abbrev R_112 (l_ : Nat) : Nat := if l_ = 1475 then 1489 else if l_ = 1476 then 1490 else if l_ = 1477 then 1491 else if l_ = 1478 then 1492 else if l_ = 1479 then 1493 else if l_ = 1480 then 1494 else if l_ = 1481 then 1495 else l_
abbrev R_113 (l_ : Nat) : Nat := if l_ = 1489 then 1469 else if l_ = 1490 then 1470 else if l_ = 1491 then 1471 else if l_ = 1492 then 1472 else if l_ = 1494 then 1473 else l_
abbrev R_114 (l_ : Nat) : Nat := if l_ = 1393 then 1475 else if l_ = 1394 then 1476 else if l_ = 1395 then 1477 else if l_ = 1396 then 1478 else if l_ = 1397 then 1480 else if l_ = 1474 then 1479 else l_
abbrev R_115 (l_ : Nat) : Nat := if l_ = 937 then 1576 else if l_ = 938 then 1577 else if l_ = 939 then 1578 else if l_ = 940 then 1579 else if l_ = 941 then 1580 else if l_ = 942 then 1581 else if l_ = 943 then 1582 else if l_ = 944 then 1583 else if l_ = 945 then 1584 else if l_ = 946 then 1585 else l_
abbrev R_116 (l_ : Nat) : Nat := if l_ = 1579 then 1177 else if l_ = 1580 then 1178 else if l_ = 1581 then 1179 else if l_ = 1582 then 1180 else if l_ = 1585 then 1181 else l_
abbrev R_117 (l_ : Nat) : Nat := if l_ = 1686 then 1576 else if l_ = 1687 then 1577 else if l_ = 1688 then 1578 else if l_ = 1689 then 1579 else if l_ = 1690 then 1580 else if l_ = 1691 then 1581 else if l_ = 1692 then 1582 else if l_ = 1693 then 1583 else if l_ = 1694 then 1584 else if l_ = 1695 then 1585 else l_
abbrev R_118 (l_ : Nat) : Nat := if l_ = 1576 then 1711 else if l_ = 1577 then 1712 else if l_ = 1578 then 1713 else if l_ = 1579 then 1714 else if l_ = 1580 then 1715 else if l_ = 1581 then 1716 else if l_ = 1582 then 1717 else if l_ = 1583 then 1718 else if l_ = 1584 then 1719 else if l_ = 1585 then 1720 else if l_ = 1697 then 1721 else l_
abbrev R_119 (l_ : Nat) : Nat := if l_ = 1711 then 1686 else if l_ = 1712 then 1687 else if l_ = 1713 then 1688 else if l_ = 1714 then 1689 else if l_ = 1715 then 1690 else if l_ = 1716 then 1691 else if l_ = 1717 then 1692 else if l_ = 1718 then 1693 else if l_ = 1719 then 1694 else if l_ = 1720 then 1695 else l_
abbrev R_120 (l_ : Nat) : Nat := if l_ = 9 then 2006 else if l_ = 10 then 2007 else if l_ = 11 then 2008 else if l_ = 12 then 2009 else if l_ = 13 then 2010 else if l_ = 14 then 2011 else if l_ = 15 then 2012 else if l_ = 16 then 2014 else l_
abbrev R_121 (l_ : Nat) : Nat := if l_ = 2487 then 2006 else if l_ = 2488 then 2007 else if l_ = 2489 then 2008 else if l_ = 2490 then 2009 else if l_ = 2491 then 2010 else if l_ = 2492 then 2011 else if l_ = 2493 then 2012 else if l_ = 2494 then 2013 else if l_ = 2495 then 2014 else if l_ = 2496 then 2015 else l_
abbrev R_122 (l_ : Nat) : Nat := if l_ = 2550 then 2576 else if l_ = 2551 then 2577 else if l_ = 2552 then 2578 else if l_ = 2553 then 2579 else if l_ = 2554 then 2580 else if l_ = 2555 then 2581 else if l_ = 2556 then 2582 else if l_ = 2557 then 2583 else if l_ = 2558 then 2584 else if l_ = 2559 then 2585 else if l_ = 2562 then 2586 else l_
abbrev R_123 (l_ : Nat) : Nat := if l_ = 2576 then 2487 else if l_ = 2577 then 2488 else if l_ = 2578 then 2489 else if l_ = 2579 then 2490 else if l_ = 2580 then 2491 else if l_ = 2581 then 2492 else if l_ = 2582 then 2493 else if l_ = 2583 then 2494 else if l_ = 2584 then 2495 else if l_ = 2585 then 2496 else l_
abbrev R_124 (l_ : Nat) : Nat := if l_ = 2330 then 2612 else if l_ = 2331 then 2613 else if l_ = 2332 then 2614 else if l_ = 2333 then 2615 else if l_ = 2334 then 2616 else if l_ = 2335 then 2617 else if l_ = 2336 then 2618 else if l_ = 2337 then 2619 else if l_ = 2338 then 2620 else if l_ = 2339 then 2621 else l_
abbrev R_125 (l_ : Nat) : Nat := if l_ = 2633 then 2612 else if l_ = 2634 then 2613 else if l_ = 2635 then 2614 else if l_ = 2636 then 2615 else if l_ = 2637 then 2616 else if l_ = 2638 then 2617 else if l_ = 2639 then 2618 else if l_ = 2640 then 2619 else if l_ = 2641 then 2620 else if l_ = 2642 then 2621 else l_
abbrev R_126 (l_ : Nat) : Nat := if l_ = 2612 then 2550 else if l_ = 2613 then 2551 else if l_ = 2614 then 2552 else if l_ = 2615 then 2553 else if l_ = 2616 then 2554 else if l_ = 2617 then 2555 else if l_ = 2618 then 2556 else if l_ = 2619 then 2557 else if l_ = 2620 then 2558 else if l_ = 2621 then 2559 else l_
abbrev R_127 (l_ : Nat) : Nat := if l_ = 2612 then 2633 else if l_ = 2613 then 2634 else if l_ = 2614 then 2635 else if l_ = 2615 then 2636 else if l_ = 2616 then 2637 else if l_ = 2617 then 2638 else if l_ = 2618 then 2639 else if l_ = 2619 then 2640 else if l_ = 2620 then 2641 else if l_ = 2621 then 2642 else l_
abbrev R_128 (l_ : Nat) : Nat := if l_ = 2006 then 937 else if l_ = 2007 then 938 else if l_ = 2008 then 939 else if l_ = 2009 then 940 else if l_ = 2010 then 941 else if l_ = 2011 then 942 else if l_ = 2012 then 943 else if l_ = 2013 then 944 else if l_ = 2014 then 945 else if l_ = 2015 then 946 else l_
abbrev R_129 (l_ : Nat) : Nat := if l_ = 2006 then 2330 else if l_ = 2007 then 2331 else if l_ = 2008 then 2332 else if l_ = 2009 then 2333 else if l_ = 2010 then 2334 else if l_ = 2011 then 2335 else if l_ = 2012 then 2336 else if l_ = 2013 then 2337 else if l_ = 2014 then 2338 else if l_ = 2015 then 2339 else l_
abbrev R_130 (l_ : Nat) : Nat := if l_ = 2 then 11 else if l_ = 3 then 10 else if l_ = 4 then 9 else if l_ = 5 then 15 else if l_ = 6 then 12 else if l_ = 7 then 13 else if l_ = 8 then 14 else l_
set_option maxHeartbeats 4000000 in
set_option maxRecDepth 20000 in
theorem tidewracktop_TidewrackLines_calls (K : Nat) (Ap0 : Option Addr) (cp0 : Nat) (p0 : List ByteArray) (p1 : Int) (p2 : Int) (w : World) (o : Nat → Nat) (Lg0 : Nat) (hg0 : Ft (RdC ET109 (some ⟨0, 0, none⟩) glob0) w o Lg0) (Lg1 : Nat) (hg1 : Ft (RdC ET109 (some ⟨1, 0, none⟩) glob1) w o Lg1) (Lg2 : Nat) (hg2 : Ft (RdC (encInt .u32) (some ⟨2, 0, none⟩) glob2) w o Lg2) (Lg3 : Nat) (hg3 : Ft (RdC ET141 (some ⟨3, 0, none⟩) glob3) w o Lg3) (Lp0 : Nat) (hp0 : Ft (RdC encStr Ap0 p0) w o Lp0) (hcp0 : (p0).length ≤ cp0)  (r : Bool) (H : tidewracktop_TidewrackLines K p0 p1 p2 = some r) :
    Calls Tryz.prog 3 #[.slice Ap0 (p0).length cp0, .int .i64 p1, .int .i64 p2] w (Ret fun v_ w' => ∃ o' : Nat → Nat, v_ = .bool r ∧ St [] w o w' o') := by
  refine x_enter (vs := [.slice Ap0 (p0).length cp0, .int .i64 p1, .int .i64 p2]) Tryz.func3 rfl rfl rfl fun a hk => ?_
  obtain ⟨o0, hs, h0⟩ := St.start w o
  have fg0 := h0 _ _ hg0
  have fg1 := h0 _ _ hg1
  have fg2 := h0 _ _ hg2
  have fg3 := h0 _ _ hg3
  have f900000 := h0 _ _ hp0
  clear h0
  rw [tidewracktop_TidewrackLines] at H
  refine x_seq ?_
  refine wpIn_region_lit ?_
  refine x_run tab hk (k := 1) (lv := []) (ks := [0, 1, 2]) (e' := [(0, .slice Ap0 (p0).length cp0), (1, .int .i64 p1), (2, .int .i64 p2)]) rfl trivial fun a hk => ?_
  refine wpListIn_nil ?_
  refine then_n ?_
  refine x_seq ?_
  refine wpIn_region_lit ?_
  refine x_run tab hk (k := 8) (lv := []) (ks := [0, 1, 2]) (e' := [(0, .slice Ap0 (p0).length cp0), (1, .int .i64 (IntKind.wrap .i64 (2 + (bits .and .i64 p1 15)))), (2, .int .i64 (IntKind.wrap .i64 (1 + (bits .and .i64 p2 3))))]) rfl trivial fun a hk => ?_
  refine wpListIn_nil ?_
  refine then_n ?_
  refine x_seq ?_
  refine wpIn_region_lit ?_
  refine x_run tab hk (k := 2) (lv := []) (ks := [0, 2, 29, 30]) (e' := [(0, .slice Ap0 (p0).length cp0), (2, .int .i64 (IntKind.wrap .i64 (1 + (bits .and .i64 p2 3)))), (29, .int .i64 (IntKind.wrap .i64 (2 + (bits .and .i64 p1 15)))), (30, .int .i64 (IntKind.wrap .i64 (1 + (bits .and .i64 p2 3))))]) rfl trivial fun a hk => ?_
  refine x_op hk rfl ?_
  obtain ⟨t4, hc5, H⟩ := bindS H
  refine op_call hk ent_4 (vs := [.int .i64 (IntKind.wrap .i64 (2 + (bits .and .i64 p1 15))), .int .i64 (IntKind.wrap .i64 (1 + (bits .and .i64 p2 3)))]) rfl (screen_New_calls K (IntKind.wrap .i64 (2 + (bits .and .i64 p1 15))) (IntKind.wrap .i64 (1 + (bits .and .i64 p2 3))) _ o0 1 (by decide) 2 3 4  _ hc5) ?_
  rintro _ w6 ⟨o7, bx9, bx11, A13, c14, rfl, st8, f10, f12, f15, hc16⟩
  replace f900000 := f900000.st st8 (by decide)
  replace fg0 := fg0.st st8 (by decide)
  replace fg1 := fg1.st st8 (by decide)
  replace fg2 := fg2.st st8 (by decide)
  replace fg3 := fg3.st st8 (by decide)
  replace hs := hs.loc0 st8 (by decide)
  have hk := hk.put 31 (.pointer (some ⟨bx9, 0, none⟩)) rfl
  refine x_op hk rfl ?_
  obtain ⟨t20, hc21, H⟩ := bindS H
  refine op_call hk ent_5 (vs := []) rfl (book_New_calls  _ o7 1 (by decide) 5 6 7 8  _ hc21) ?_
  rintro _ w22 ⟨o23, bx25, A27, c28, A31, c32, A35, c36, rfl, st24, f26, f29, hc30, f33, hc34, f37, hc38⟩
  replace f10 := f10.st st24 (by decide)
  replace f12 := f12.st st24 (by decide)
  replace f15 := f15.st st24 (by decide)
  replace f900000 := f900000.st st24 (by decide)
  replace fg0 := fg0.st st24 (by decide)
  replace fg1 := fg1.st st24 (by decide)
  replace fg2 := fg2.st st24 (by decide)
  replace fg3 := fg3.st st24 (by decide)
  replace hs := hs.loc0 st24 (by decide)
  have hk := hk.put 32 (.pointer (some ⟨bx25, 0, none⟩)) rfl
  refine x_run tab hk (k := 2) (lv := []) (ks := [0, 2, 7, 8]) (e' := [(0, .slice Ap0 (p0).length cp0), (2, .int .i64 (IntKind.wrap .i64 (1 + (bits .and .i64 p2 3)))), (7, .pointer (some ⟨bx9, 0, none⟩)), (8, .pointer (some ⟨bx25, 0, none⟩))]) rfl trivial fun a hk => ?_
  refine wpListIn_nil ?_
  refine then_n ?_
  refine x_mid (fun a_ w_ => ∃ o42 : Nat → Nat, Kn 151 a_ [(0, .slice Ap0 (p0).length cp0), (2, .int .i64 (IntKind.wrap .i64 (1 + (bits .and .i64 p2 3)))), (7, .pointer (some ⟨bx9, 0, none⟩)), (8, .pointer (some ⟨bx25, 0, none⟩))] ∧ St [] w (fun _ => 0) w_ o42 ∧ Ft (Bx bx9 56 [.pointer (some ⟨bx11, 0, none⟩), .int .i64 t4.spot_x, .int .i64 t4.spot_y, .int .i64 t4.spot_style_Fore, .int .i64 t4.spot_style_Back, .bool t4.spot_style_Bold, .bool t4.spot_style_Under, .bool t4.spot_style_Inverse, .int .i64 t4.saved_x, .int .i64 t4.saved_y, .int .i64 t4.saved_style_Fore, .int .i64 t4.saved_style_Back, .bool t4.saved_style_Bold, .bool t4.saved_style_Under, .bool t4.saved_style_Inverse, .bool t4.waiting, .int .i64 t4.top, .int .i64 t4.bottom, .bool t4.wraps, .string t4.title]) w_ o42 11 ∧ Ft (Bx bx11 75 [.int .i64 t4.g_w, .slice A13 (t4.g_l).length c14]) w_ o42 10 ∧ NOwn dT65 66 A13 c14 t4.g_l w_ o42 9 1 ∧ Ft (Bx bx25 61 [.slice A27 (t20.l).length c28, .slice A31 (t20.chains).length c32, .slice A35 (t20.begun).length c36]) w_ o42 15 ∧ NOwn (dRows ET46) 43 A27 c28 t20.l w_ o42 12 1 ∧ Ft (Own (encInt .i64) 3 (.slice A31 (t20.chains).length c32) t20.chains) w_ o42 13 ∧ Ft (Own ET46 47 (.slice A35 (t20.begun).length c36) t20.begun) w_ o42 14 ∧ Ft (RdC encStr Ap0 p0) w_ o42 0 ∧ Ft (RdC ET109 (some ⟨0, 0, none⟩) glob0) w_ o42 0 ∧ Ft (RdC ET109 (some ⟨1, 0, none⟩) glob1) w_ o42 0 ∧ Ft (RdC (encInt .u32) (some ⟨2, 0, none⟩) glob2) w_ o42 0 ∧ Ft (RdC ET141 (some ⟨3, 0, none⟩) glob3) w_ o42 0 ∧ tidewracktop_TidewrackLines_j1 K p0 p2 t4 t20 = some r) ?_ ?_
  rotate_left
  · refine fun a w43 z0 => z0.elim fun o42 z1 => z1.elim fun hk z2 => z2.elim fun hs z3 => z3.elim fun f10 z4 => z4.elim fun f12 z5 => z5.elim fun f15 z6 => z6.elim fun f26 z7 => z7.elim fun f29 z8 => z8.elim fun f33 z9 => z9.elim fun f37 z10 => z10.elim fun f900000 z11 => z11.elim fun fg0 z12 => z12.elim fun fg1 z13 => z13.elim fun fg2 z14 => z14.elim fun fg3 H => ?_
    clear z0 z1 z2 z3 z4 z5 z6 z7 z8 z9 z10 z11 z12 z13 z14
    rw [tidewracktop_TidewrackLines_j1] at H
    refine x_seq ?_
    refine wpIn_region_lit ?_
    refine x_op hk rfl ?_
    refine op_alloc (o := o42) tab (t := 34) (cs := [.int .i64 0, .bool false, .bool false, .bool false, .bool false, .int .i64 0, .slice none 0 0, .string (⟨#[]⟩ : ByteArray), .int .u8 0, .int .i32 0, .int .i64 0, .slice none 0 0]) rfl rfl 16 fun bx47 w44 o45 st46 f48 => ?_
    replace f10 := f10.st st46 (by decide)
    replace f12 := f12.st st46 (by decide)
    replace f15 := f15.st st46 (by decide)
    replace f26 := f26.st st46 (by decide)
    replace f29 := f29.st st46 (by decide)
    replace f33 := f33.st st46 (by decide)
    replace f37 := f37.st st46 (by decide)
    replace f900000 := f900000.st st46 (by decide)
    replace fg0 := fg0.st st46 (by decide)
    replace fg1 := fg1.st st46 (by decide)
    replace fg2 := fg2.st st46 (by decide)
    replace fg3 := fg3.st st46 (by decide)
    replace hs := hs.loc0 st46 (by decide)
    have hk := hk.put 9 (.pointer (some ⟨bx47, 0, none⟩)) rfl
    refine wpListIn_nil ?_
    refine then_n ?_
    refine x_seq ?_
    refine wpIn_region_lit ?_
    refine x_run tab hk (k := 1) (lv := []) (ks := [0, 2, 7, 8, 9, 10]) (e' := [(0, .slice Ap0 (p0).length cp0), (2, .int .i64 (IntKind.wrap .i64 (1 + (bits .and .i64 p2 3)))), (7, .pointer (some ⟨bx9, 0, none⟩)), (8, .pointer (some ⟨bx25, 0, none⟩)), (9, .pointer (some ⟨bx47, 0, none⟩)), (10, .slice none 0 0)]) rfl trivial fun a hk => ?_
    refine wpListIn_nil ?_
    refine then_n ?_
    refine x_mid (fun a_ w_ => ∃ o3617 : Nat → Nat, ∃ bx3618 : Nat, ∃ x3620 : Int, ∃ A3621 : Option Addr, ∃ c3622 : Nat, ∃ l3623 : List T65, ∃ x3626 : Int, ∃ x3627 : Int, ∃ x3628 : Int, ∃ x3629 : Int, ∃ x3630 : Bool, ∃ x3631 : Bool, ∃ x3632 : Bool, ∃ x3633 : Int, ∃ x3634 : Int, ∃ x3635 : Int, ∃ x3636 : Int, ∃ x3637 : Bool, ∃ x3638 : Bool, ∃ x3639 : Bool, ∃ x3640 : Bool, ∃ x3641 : Int, ∃ x3642 : Int, ∃ x3643 : Bool, ∃ x3644 : ByteArray, ∃ A3645 : Option Addr, ∃ c3646 : Nat, ∃ l3647 : List (List T46), ∃ A3650 : Option Addr, ∃ c3651 : Nat, ∃ l3652 : List Int, ∃ A3655 : Option Addr, ∃ c3656 : Nat, ∃ l3657 : List T46, ∃ x3660 : Int, ∃ x3661 : Bool, ∃ x3662 : Bool, ∃ x3663 : Bool, ∃ x3664 : Bool, ∃ x3665 : Int, ∃ A3666 : Option Addr, ∃ c3667 : Nat, ∃ l3668 : List Int, ∃ x3671 : ByteArray, ∃ x3672 : Int, ∃ x3673 : Int, ∃ x3674 : Int, ∃ A3675 : Option Addr, ∃ c3676 : Nat, ∃ l3677 : List ByteArray, Kn 151 a_ [(2, .int .i64 (IntKind.wrap .i64 (1 + (bits .and .i64 p2 3)))), (7, .pointer (some ⟨bx9, 0, none⟩)), (8, .pointer (some ⟨bx25, 0, none⟩)), (9, .pointer (some ⟨bx47, 0, none⟩)), (10, .slice A3675 (l3677).length c3676)] ∧ St [] w (fun _ => 0) w_ o3617 ∧ Ft (Bx bx9 56 [.pointer (some ⟨bx3618, 0, none⟩), .int .i64 x3626, .int .i64 x3627, .int .i64 x3628, .int .i64 x3629, .bool x3630, .bool x3631, .bool x3632, .int .i64 x3633, .int .i64 x3634, .int .i64 x3635, .int .i64 x3636, .bool x3637, .bool x3638, .bool x3639, .bool x3640, .int .i64 x3641, .int .i64 x3642, .bool x3643, .string x3644]) w_ o3617 939 ∧ Ft (Bx bx25 61 [.slice A3645 (l3647).length c3646, .slice A3650 (l3652).length c3651, .slice A3655 (l3657).length c3656]) w_ o3617 943 ∧ Ft (Bx bx3618 75 [.int .i64 x3620, .slice A3621 (l3623).length c3622]) w_ o3617 938 ∧ NOwn dT65 66 A3621 c3622 l3623 w_ o3617 937 1 ∧ NOwn (dRows ET46) 43 A3645 c3646 l3647 w_ o3617 940 1 ∧ Ft (Own (encInt .i64) 3 (.slice A3650 (l3652).length c3651) l3652) w_ o3617 941 ∧ Ft (Own ET46 47 (.slice A3655 (l3657).length c3656) l3657) w_ o3617 942 ∧ Ft (Own (encInt .i64) 3 (.slice A3666 (l3668).length c3667) l3668) w_ o3617 944 ∧ Ft (Own encStr 9 (.slice A3675 (l3677).length c3676) l3677) w_ o3617 946 ∧ Ft (Bx bx47 34 [.int .i64 x3660, .bool x3661, .bool x3662, .bool x3663, .bool x3664, .int .i64 x3665, .slice A3666 (l3668).length c3667, .string x3671, .int .u8 x3672, .int .i32 x3673, .int .i64 x3674, .slice none 0 0]) w_ o3617 945 ∧ Ft (RdC ET109 (some ⟨0, 0, none⟩) glob0) w_ o3617 0 ∧ Ft (RdC ET109 (some ⟨1, 0, none⟩) glob1) w_ o3617 0 ∧ Ft (RdC (encInt .u32) (some ⟨2, 0, none⟩) glob2) w_ o3617 0 ∧ Ft (RdC ET141 (some ⟨3, 0, none⟩) glob3) w_ o3617 0 ∧ (l3623).length ≤ c3622 ∧ (l3647).length ≤ c3646 ∧ (l3652).length ≤ c3651 ∧ (l3657).length ≤ c3656 ∧ (l3668).length ≤ c3667 ∧ (l3677).length ≤ c3676 ∧ tidewracktop_TidewrackLines_j2 K p2 x3620 l3623 x3626 x3627 x3628 x3629 x3630 x3631 x3632 x3633 x3634 x3635 x3636 x3637 x3638 x3639 x3640 x3641 x3642 x3643 x3644 l3647 l3652 l3657 x3660 x3661 x3662 x3663 x3664 x3665 l3668 x3671 x3672 x3673 x3674 l3677 = some r) ?_ ?_
    rotate_left
    · refine fun a w3680 z0 => z0.elim fun o3617 z1 => z1.elim fun bx3618 z2 => z2.elim fun x3620 z3 => z3.elim fun A3621 z4 => z4.elim fun c3622 z5 => z5.elim fun l3623 z6 => z6.elim fun x3626 z7 => z7.elim fun x3627 z8 => z8.elim fun x3628 z9 => z9.elim fun x3629 z10 => z10.elim fun x3630 z11 => z11.elim fun x3631 z12 => z12.elim fun x3632 z13 => z13.elim fun x3633 z14 => z14.elim fun x3634 z15 => z15.elim fun x3635 z16 => z16.elim fun x3636 z17 => z17.elim fun x3637 z18 => z18.elim fun x3638 z19 => z19.elim fun x3639 z20 => z20.elim fun x3640 z21 => z21.elim fun x3641 z22 => z22.elim fun x3642 z23 => z23.elim fun x3643 z24 => z24.elim fun x3644 z25 => z25.elim fun A3645 z26 => z26.elim fun c3646 z27 => z27.elim fun l3647 z28 => z28.elim fun A3650 z29 => z29.elim fun c3651 z30 => z30.elim fun l3652 z31 => z31.elim fun A3655 z32 => z32.elim fun c3656 z33 => z33.elim fun l3657 z34 => z34.elim fun x3660 z35 => z35.elim fun x3661 z36 => z36.elim fun x3662 z37 => z37.elim fun x3663 z38 => z38.elim fun x3664 z39 => z39.elim fun x3665 z40 => z40.elim fun A3666 z41 => z41.elim fun c3667 z42 => z42.elim fun l3668 z43 => z43.elim fun x3671 z44 => z44.elim fun x3672 z45 => z45.elim fun x3673 z46 => z46.elim fun x3674 z47 => z47.elim fun A3675 z48 => z48.elim fun c3676 z49 => z49.elim fun l3677 z50 => z50.elim fun hk z51 => z51.elim fun hs z52 => z52.elim fun f10 z53 => z53.elim fun f26 z54 => z54.elim fun f3619 z55 => z55.elim fun f3624 z56 => z56.elim fun f3648 z57 => z57.elim fun f3653 z58 => z58.elim fun f3658 z59 => z59.elim fun f3669 z60 => z60.elim fun f3678 z61 => z61.elim fun f48 z62 => z62.elim fun fg0 z63 => z63.elim fun fg1 z64 => z64.elim fun fg2 z65 => z65.elim fun fg3 z66 => z66.elim fun hc3625 z67 => z67.elim fun hc3649 z68 => z68.elim fun hc3654 z69 => z69.elim fun hc3659 z70 => z70.elim fun hc3670 z71 => z71.elim fun hc3679 H => ?_
      clear z0 z1 z2 z3 z4 z5 z6 z7 z8 z9 z10 z11 z12 z13 z14 z15 z16 z17 z18 z19 z20 z21 z22 z23 z24 z25 z26 z27 z28 z29 z30 z31 z32 z33 z34 z35 z36 z37 z38 z39 z40 z41 z42 z43 z44 z45 z46 z47 z48 z49 z50 z51 z52 z53 z54 z55 z56 z57 z58 z59 z60 z61 z62 z63 z64 z65 z66 z67 z68 z69 z70 z71
      rw [tidewracktop_TidewrackLines_j2] at H
      refine x_mid (fun a_ w_ => ∃ o5567 : Nat → Nat, ∃ A5568 : Option Addr, ∃ c5569 : Nat, ∃ l5570 : List (List T46), ∃ A5573 : Option Addr, ∃ c5574 : Nat, ∃ l5575 : List Int, ∃ A5578 : Option Addr, ∃ c5579 : Nat, ∃ l5580 : List T46, Kn 151 a_ [(8, .pointer (some ⟨bx25, 0, none⟩)), (10, .slice A3675 (l3677).length c3676)] ∧ St [] w (fun _ => 0) w_ o5567 ∧ Ft (Bx bx25 61 [.slice A5568 (l5570).length c5569, .slice A5573 (l5575).length c5574, .slice A5578 (l5580).length c5579]) w_ o5567 1180 ∧ Ft (Own encStr 9 (.slice A3675 (l3677).length c3676) l3677) w_ o5567 1181 ∧ NOwn (dRows ET46) 43 A5568 c5569 l5570 w_ o5567 1177 1 ∧ Ft (Own (encInt .i64) 3 (.slice A5573 (l5575).length c5574) l5575) w_ o5567 1178 ∧ Ft (Own ET46 47 (.slice A5578 (l5580).length c5579) l5580) w_ o5567 1179 ∧ Ft (RdC ET109 (some ⟨0, 0, none⟩) glob0) w_ o5567 0 ∧ Ft (RdC ET109 (some ⟨1, 0, none⟩) glob1) w_ o5567 0 ∧ Ft (RdC (encInt .u32) (some ⟨2, 0, none⟩) glob2) w_ o5567 0 ∧ Ft (RdC ET141 (some ⟨3, 0, none⟩) glob3) w_ o5567 0 ∧ (l5570).length ≤ c5569 ∧ (l5575).length ≤ c5574 ∧ (l5580).length ≤ c5579 ∧ tidewracktop_TidewrackLines_j3 K l3677 l5570 l5575 l5580 = some r) ?_ ?_
      rotate_left
      · refine fun a w5583 z0 => z0.elim fun o5567 z1 => z1.elim fun A5568 z2 => z2.elim fun c5569 z3 => z3.elim fun l5570 z4 => z4.elim fun A5573 z5 => z5.elim fun c5574 z6 => z6.elim fun l5575 z7 => z7.elim fun A5578 z8 => z8.elim fun c5579 z9 => z9.elim fun l5580 z10 => z10.elim fun hk z11 => z11.elim fun hs z12 => z12.elim fun f26 z13 => z13.elim fun f3678 z14 => z14.elim fun f5571 z15 => z15.elim fun f5576 z16 => z16.elim fun f5581 z17 => z17.elim fun fg0 z18 => z18.elim fun fg1 z19 => z19.elim fun fg2 z20 => z20.elim fun fg3 z21 => z21.elim fun hc5572 z22 => z22.elim fun hc5577 z23 => z23.elim fun hc5582 H => ?_
        clear z0 z1 z2 z3 z4 z5 z6 z7 z8 z9 z10 z11 z12 z13 z14 z15 z16 z17 z18 z19 z20 z21 z22 z23
        rw [tidewracktop_TidewrackLines_j3] at H
        refine x_seq ?_
        refine x_seq ?_
        refine wpIn_region_lit ?_
        refine x_run tab hk (k := 1) (lv := []) (ks := [8, 10, 108]) (e' := [(8, .pointer (some ⟨bx25, 0, none⟩)), (10, .slice A3675 (l3677).length c3676), (108, .pointer (some ⟨bx25, 0, none⟩))]) rfl trivial fun a hk => ?_
        refine x_op hk rfl ?_
        obtain ⟨t5587, hc5588, H⟩ := bindS H
        refine op_call hk ent_9 (vs := [.pointer (some ⟨bx25, 0, none⟩)]) rfl (book_Book_Len_calls bx25 A5568 c5569 A5573 c5574 A5578 c5579 (⟨l5570, l5575, l5580⟩ : T60) _ o5567 1 1180 f26 _ f5571.rd hc5572 _ (f5576.imp fun _ h_ => Own.rd h_) hc5577 _ (f5581.imp fun _ h_ => Own.rd h_) hc5582 (by decide) (by decide) (by decide) (by decide) (by decide)   _ hc5588) ?_
        rintro _ w5589 ⟨o5590, rfl, st5591⟩
        replace f26 := f26.st st5591 (by decide)
        replace f3678 := f3678.st st5591 (by decide)
        replace f5571 := f5571.st st5591 (by decide)
        replace f5576 := f5576.st st5591 (by decide)
        replace f5581 := f5581.st st5591 (by decide)
        replace fg0 := fg0.st st5591 (by decide)
        replace fg1 := fg1.st st5591 (by decide)
        replace fg2 := fg2.st st5591 (by decide)
        replace fg3 := fg3.st st5591 (by decide)
        replace hs := hs.loc0 st5591 (by decide)
        have hk := hk.put 109 (.int .i64 t5587) rfl
        refine x_run tab hk (k := 3) (lv := []) (ks := [8, 10, 112]) (e' := [(8, .pointer (some ⟨bx25, 0, none⟩)), (10, .slice A3675 (l3677).length c3676), (112, .bool (decide (t5587 < ((l3677).length : Int))))]) rfl trivial fun a hk => ?_
        refine wpListIn_nil ?_
        refine then_n ?_
        cases b5592 : (decide (t5587 < ((l3677).length : Int)))
        · rw [b5592] at hk H
          replace H := bifF H
          refine x_if hk (b := false) rfl ?_
          refine (show Code.wpIn _ _ _ _ _ _ _ from ?_)
          refine wpIn_skip ?_
          refine then_n ?_
          refine x_mid (fun a_ w_ => ∃ o6233 : Nat → Nat, Kn 151 a_ [] ∧ St [] w (fun _ => 0) w_ o6233 ∧ Ft (RdC ET109 (some ⟨0, 0, none⟩) glob0) w_ o6233 0 ∧ Ft (RdC ET109 (some ⟨1, 0, none⟩) glob1) w_ o6233 0 ∧ Ft (RdC (encInt .u32) (some ⟨2, 0, none⟩) glob2) w_ o6233 0 ∧ Ft (RdC ET141 (some ⟨3, 0, none⟩) glob3) w_ o6233 0 ∧ tidewracktop_TidewrackLines_j4 = some r) ?_ ?_
          rotate_left
          · rintro a w6234 ⟨o6233, hk, hs, fg0, fg1, fg2, fg3, H⟩
            rw [tidewracktop_TidewrackLines_j4] at H
            refine x_seq ?_
            refine wpIn_region_lit ?_
            refine x_run tab hk (k := 1) (lv := []) (ks := [6]) (e' := [(6, .bool true)]) rfl trivial fun a hk => ?_
            refine wpListIn_nil ?_
            refine then_n ?_
            refine wpIn_ret ?_
            obtain rfl := Option.some.inj H
            exact x_retG hk (rs := [.tmp 6]) (vs := [.bool true]) rfl ⟨rfl, trivial⟩ ⟨fun b_ => if b_ < w.heap.size then o b_ else (fun _ => 0) (o6233 b_), rfl, hs.close0 o (fun _ => 0)⟩
          refine x_seq ?_
          refine wpIn_region_lit ?_
          refine x_run tab hk (k := 3) (lv := []) (ks := [8, 113, 114, 115]) (e' := [(8, .pointer (some ⟨bx25, 0, none⟩)), (113, .slice A3675 (l3677).length c3676), (114, .int .i64 ((l3677).length : Int)), (115, .int .i64 0)]) rfl trivial fun a hk => ?_
          refine wpListIn_nil ?_
          refine then_n ?_
          refine wpIn_block ?_
          refine x_loop (fun j_ a_ w_ => ∃ o6446 : Nat → Nat, ∃ A6447 : Option Addr, ∃ c6448 : Nat, ∃ x6451 : Int, Kn 151 a_ [(8, .pointer (some ⟨bx25, 0, none⟩)), (113, .slice A6447 (l3677).length c6448), (114, .int .i64 ((l3677).length : Int)), (115, .int .i64 x6451)] ∧ St [] w (fun _ => 0) w_ o6446 ∧ Ft (Bx bx25 61 [.slice A5568 (l5570).length c5569, .slice A5573 (l5575).length c5574, .slice A5578 (l5580).length c5579]) w_ o6446 1396 ∧ NOwn (dRows ET46) 43 A5568 c5569 l5570 w_ o6446 1393 1 ∧ Ft (Own (encInt .i64) 3 (.slice A5573 (l5575).length c5574) l5575) w_ o6446 1394 ∧ Ft (Own ET46 47 (.slice A5578 (l5580).length c5579) l5580) w_ o6446 1395 ∧ Ft (Own encStr 9 (.slice A6447 (l3677).length c6448) l3677) w_ o6446 1397 ∧ Ft (RdC ET109 (some ⟨0, 0, none⟩) glob0) w_ o6446 0 ∧ Ft (RdC ET109 (some ⟨1, 0, none⟩) glob1) w_ o6446 0 ∧ Ft (RdC (encInt .u32) (some ⟨2, 0, none⟩) glob2) w_ o6446 0 ∧ Ft (RdC ET141 (some ⟨3, 0, none⟩) glob3) w_ o6446 0 ∧ (l3677).length ≤ c6448 ∧ tidewracktop_TidewrackLines_l5 K l3677 l5570 l5575 l5580 j_ x6451 = some r) (k := K) ⟨(fun b_ => R_110 (o5590 b_)), A3675, c3676, 0, (by exact Kn.pick (ks := [8, 113, 114, 115]) hk rfl), (hs.relab0 R_110 rfl), (f26.relab R_110 rfl), (f5571.relab R_110 rfl), (f5576.relab R_110 rfl), (f5581.relab R_110 rfl), (f3678.relab R_110 rfl), (fg0.relab R_110 rfl), (fg1.relab R_110 rfl), (fg2.relab R_110 rfl), (fg3.relab R_110 rfl), hc3679, H⟩ (fun _ _ z => z.elim fun _ z => z.elim fun _ z => z.elim fun _ z => z.elim fun _ z => z.elim fun _ z => z.elim fun _ z => z.elim fun _ z => z.elim fun _ z => z.elim fun _ z => z.elim fun _ z => z.elim fun _ z => z.elim fun _ z => z.elim fun _ z => z.elim fun _ z => z.elim fun _ z => z.elim fun _ z => absurd (show (none : Option Bool) = some r from z) (by simp)) ?_
          refine fun k6661 a w6660 z0 => z0.elim fun o6446 z1 => z1.elim fun A6447 z2 => z2.elim fun c6448 z3 => z3.elim fun x6451 z4 => z4.elim fun hk z5 => z5.elim fun hs z6 => z6.elim fun f26 z7 => z7.elim fun f5571 z8 => z8.elim fun f5576 z9 => z9.elim fun f5581 z10 => z10.elim fun f6449 z11 => z11.elim fun fg0 z12 => z12.elim fun fg1 z13 => z13.elim fun fg2 z14 => z14.elim fun fg3 z15 => z15.elim fun hc6450 H => ?_
          clear z0 z1 z2 z3 z4 z5 z6 z7 z8 z9 z10 z11 z12 z13 z14 z15
          rw [tidewracktop_TidewrackLines_l5] at H
          obtain ⟨lp6662, hlp6663⟩ : ∃ lp_, lp_ = tidewracktop_TidewrackLines_l5 K l3677 l5570 l5575 l5580 k6661 := ⟨_, rfl⟩
          rw [← hlp6663] at H
          refine x_seq ?_
          refine wpIn_region_lit ?_
          refine x_run tab hk (k := 1) (lv := []) (ks := [8, 113, 114, 115, 116]) (e' := [(8, .pointer (some ⟨bx25, 0, none⟩)), (113, .slice A6447 (l3677).length c6448), (114, .int .i64 ((l3677).length : Int)), (115, .int .i64 x6451), (116, .bool (decide (x6451 < ((l3677).length : Int))))]) rfl trivial fun a hk => ?_
          refine wpListIn_nil ?_
          refine then_n ?_
          refine x_seq ?_
          cases b6664 : (decide (x6451 < ((l3677).length : Int)))
          · rw [b6664] at hk H
            replace H := bifF H
            refine x_if hk (b := false) rfl ?_
            refine (show Code.wpIn _ _ _ _ _ _ _ from ?_)
            refine wpIn_exit ?_
            refine then_x ?_
            refine then_x ?_
            refine blk_x ?_
            refine then_n ?_
            exact ⟨o6446, (by exact Kn.pick (ks := []) hk rfl), hs, fg0, fg1, fg2, fg3, H⟩
          · rw [b6664] at hk H
            replace H := bifT H
            refine x_if hk (b := true) rfl ?_
            refine (show Code.wpIn _ _ _ _ _ _ _ from ?_)
            refine wpIn_skip ?_
            refine then_n ?_
            refine x_mid (fun a_ w_ => ∃ o6770 : Nat → Nat, ∃ A6771 : Option Addr, ∃ c6772 : Nat, Kn 151 a_ [(8, .pointer (some ⟨bx25, 0, none⟩)), (113, .slice A6771 (l3677).length c6772), (114, .int .i64 ((l3677).length : Int)), (115, .int .i64 x6451)] ∧ St [] w (fun _ => 0) w_ o6770 ∧ Ft (Bx bx25 61 [.slice A5568 (l5570).length c5569, .slice A5573 (l5575).length c5574, .slice A5578 (l5580).length c5579]) w_ o6770 1472 ∧ NOwn (dRows ET46) 43 A5568 c5569 l5570 w_ o6770 1469 1 ∧ Ft (Own (encInt .i64) 3 (.slice A5573 (l5575).length c5574) l5575) w_ o6770 1470 ∧ Ft (Own ET46 47 (.slice A5578 (l5580).length c5579) l5580) w_ o6770 1471 ∧ Ft (Own encStr 9 (.slice A6771 (l3677).length c6772) l3677) w_ o6770 1473 ∧ Ft (RdC ET109 (some ⟨0, 0, none⟩) glob0) w_ o6770 0 ∧ Ft (RdC ET109 (some ⟨1, 0, none⟩) glob1) w_ o6770 0 ∧ Ft (RdC (encInt .u32) (some ⟨2, 0, none⟩) glob2) w_ o6770 0 ∧ Ft (RdC ET141 (some ⟨3, 0, none⟩) glob3) w_ o6770 0 ∧ (l3677).length ≤ c6772 ∧ tidewracktop_TidewrackLines_j6 x6451 lp6662 = some r) ?_ ?_
            rotate_left
            · refine fun a w6775 z0 => z0.elim fun o6770 z1 => z1.elim fun A6771 z2 => z2.elim fun c6772 z3 => z3.elim fun hk z4 => z4.elim fun hs z5 => z5.elim fun f26 z6 => z6.elim fun f5571 z7 => z7.elim fun f5576 z8 => z8.elim fun f5581 z9 => z9.elim fun f6773 z10 => z10.elim fun fg0 z11 => z11.elim fun fg1 z12 => z12.elim fun fg2 z13 => z13.elim fun fg3 z14 => z14.elim fun hc6774 H => ?_
              clear z0 z1 z2 z3 z4 z5 z6 z7 z8 z9 z10 z11 z12 z13 z14
              rw [tidewracktop_TidewrackLines_j6] at H
              refine wpIn_region_lit ?_
              refine x_run tab hk (k := 2) (lv := []) (ks := [8, 113, 114, 115]) (e' := [(8, .pointer (some ⟨bx25, 0, none⟩)), (113, .slice A6771 (l3677).length c6772), (114, .int .i64 ((l3677).length : Int)), (115, .int .i64 (IntKind.wrap .i64 (x6451 + 1)))]) rfl trivial fun a hk => ?_
              refine wpListIn_nil ?_
              refine then_n ?_
              exact ⟨k6661, Nat.le_refl _, (fun b_ => R_111 (o6770 b_)), A6771, c6772, (IntKind.wrap .i64 (x6451 + 1)), (by exact Kn.pick (ks := [8, 113, 114, 115]) hk rfl), (hs.relab0 R_111 rfl), (f26.relab R_111 rfl), (f5571.relab R_111 rfl), (f5576.relab R_111 rfl), (f5581.relab R_111 rfl), (f6773.relab R_111 rfl), (fg0.relab R_111 rfl), (fg1.relab R_111 rfl), (fg2.relab R_111 rfl), (fg3.relab R_111 rfl), hc6774, (hlp6663 ▸ H)⟩
            refine wpIn_block ?_
            refine x_seq ?_
            refine wpIn_region_lit ?_
            obtain ⟨q6776, H⟩ := ifS H
            obtain ⟨ad6777, hAad6777⟩ := RdC.addr (Own.rd f6449.now) q6776
            have hk_C := hk
            have f26_C := f26
            have f5571_C := f5571
            have f5576_C := f5576
            have f5581_C := f5581
            have f6449_C := f6449
            have fg0_C := fg0
            have fg1_C := fg1
            have fg2_C := fg2
            have fg3_C := fg3
            subst hAad6777
            have hk := hk_C
            clear hk_C
            have f26 := f26_C
            clear f26_C
            have f5571 := f5571_C
            clear f5571_C
            have f5576 := f5576_C
            clear f5576_C
            have f5581 := f5581_C
            clear f5581_C
            have f6449 := f6449_C
            clear f6449_C
            have fg0 := fg0_C
            clear fg0_C
            have fg1 := fg1_C
            clear fg1_C
            have fg2 := fg2_C
            clear fg2_C
            have fg3 := fg3_C
            clear fg3_C
            refine x_run tab hk (k := 5) (lv := [.string (rdD (⟨#[]⟩ : ByteArray) l3677 x6451)]) (ks := [8, 18, 19, 113, 114, 115]) (e' := [(8, .pointer (some ⟨bx25, 0, none⟩)), (18, .int .i64 x6451), (19, .string (rdD (⟨#[]⟩ : ByteArray) l3677 x6451)), (113, .slice (some ad6777) (l3677).length c6448), (114, .int .i64 ((l3677).length : Int)), (115, .int .i64 x6451)]) rfl ⟨q6776, (load1 tab rfl (RdC.at0 (E := encStr) (d := (⟨#[]⟩ : ByteArray)) (i := x6451) (Own.rd f6449.now) q6776 rfl)), trivial⟩ fun a hk => ?_
            refine wpListIn_nil ?_
            refine then_n ?_
            refine x_seq ?_
            refine wpIn_region_lit ?_
            refine x_run tab hk (k := 2) (lv := []) (ks := [8, 19, 113, 114, 115, 121, 122]) (e' := [(8, .pointer (some ⟨bx25, 0, none⟩)), (19, .string (rdD (⟨#[]⟩ : ByteArray) l3677 x6451)), (113, .slice (some ad6777) (l3677).length c6448), (114, .int .i64 ((l3677).length : Int)), (115, .int .i64 x6451), (121, .pointer (some ⟨bx25, 0, none⟩)), (122, .int .i64 x6451)]) rfl trivial fun a hk => ?_
            refine x_op hk rfl ?_
            obtain ⟨t6781, hc6782, H⟩ := bindS H
            refine op_call hk ent_10 (vs := [.pointer (some ⟨bx25, 0, none⟩), .int .i64 x6451]) rfl (book_Book_Line_calls bx25 A5568 c5569 A5573 c5574 A5578 c5579 (⟨l5570, l5575, l5580⟩ : T60) x6451 _ o6446 1 1396 f26 _ f5571.rd hc5572 _ (f5576.imp fun _ h_ => Own.rd h_) hc5577 _ (f5581.imp fun _ h_ => Own.rd h_) hc5582 (by decide) (by decide) (by decide) (by decide) (by decide) 1474  _ hc6782) ?_
            rintro _ w6783 ⟨o6784, A6786, c6787, rfl, st6785, f6788, hc6789⟩
            replace f26 := f26.st st6785 (by decide)
            replace f5571 := f5571.st st6785 (by decide)
            replace f5576 := f5576.st st6785 (by decide)
            replace f5581 := f5581.st st6785 (by decide)
            replace f6449 := f6449.st st6785 (by decide)
            replace fg0 := fg0.st st6785 (by decide)
            replace fg1 := fg1.st st6785 (by decide)
            replace fg2 := fg2.st st6785 (by decide)
            replace fg3 := fg3.st st6785 (by decide)
            replace hs := hs.loc0 st6785 (by decide)
            have hk := hk.put 123 (.tuple #[.slice A6786 (t6781.1).length c6787, .bool t6781.2]) rfl
            refine x_run tab hk (k := 5) (lv := []) (ks := [8, 19, 20, 21, 113, 114, 115]) (e' := [(8, .pointer (some ⟨bx25, 0, none⟩)), (19, .string (rdD (⟨#[]⟩ : ByteArray) l3677 x6451)), (20, .slice A6786 (t6781.1).length c6787), (21, .bool t6781.2), (113, .slice (some ad6777) (l3677).length c6448), (114, .int .i64 ((l3677).length : Int)), (115, .int .i64 x6451)]) rfl trivial fun a hk => ?_
            refine wpListIn_nil ?_
            refine then_n ?_
            refine x_mid (fun a_ w_ => ∃ o6795 : Nat → Nat, Kn 151 a_ [(8, .pointer (some ⟨bx25, 0, none⟩)), (19, .string (rdD (⟨#[]⟩ : ByteArray) l3677 x6451)), (20, .slice A6786 (t6781.1).length c6787), (113, .slice (some ad6777) (l3677).length c6448), (114, .int .i64 ((l3677).length : Int)), (115, .int .i64 x6451)] ∧ St [] w (fun _ => 0) w_ o6795 ∧ Ft (Bx bx25 61 [.slice A5568 (l5570).length c5569, .slice A5573 (l5575).length c5574, .slice A5578 (l5580).length c5579]) w_ o6795 1478 ∧ NOwn (dRows ET46) 43 A5568 c5569 l5570 w_ o6795 1475 1 ∧ Ft (Own (encInt .i64) 3 (.slice A5573 (l5575).length c5574) l5575) w_ o6795 1476 ∧ Ft (Own ET46 47 (.slice A5578 (l5580).length c5579) l5580) w_ o6795 1477 ∧ Ft (Own encStr 9 (.slice (some ad6777) (l3677).length c6448) l3677) w_ o6795 1480 ∧ Ft (Own ET46 47 (.slice A6786 (t6781.1).length c6787) t6781.1) w_ o6795 1479 ∧ Ft (RdC ET109 (some ⟨0, 0, none⟩) glob0) w_ o6795 0 ∧ Ft (RdC ET109 (some ⟨1, 0, none⟩) glob1) w_ o6795 0 ∧ Ft (RdC (encInt .u32) (some ⟨2, 0, none⟩) glob2) w_ o6795 0 ∧ Ft (RdC ET141 (some ⟨3, 0, none⟩) glob3) w_ o6795 0 ∧ tidewracktop_TidewrackLines_j7 K l3677 x6451 lp6662 t6781 = some r) ?_ ?_
            rotate_left
            · refine fun a w6796 z0 => z0.elim fun o6795 z1 => z1.elim fun hk z2 => z2.elim fun hs z3 => z3.elim fun f26 z4 => z4.elim fun f5571 z5 => z5.elim fun f5576 z6 => z6.elim fun f5581 z7 => z7.elim fun f6449 z8 => z8.elim fun f6788 z9 => z9.elim fun fg0 z10 => z10.elim fun fg1 z11 => z11.elim fun fg2 z12 => z12.elim fun fg3 H => ?_
              clear z0 z1 z2 z3 z4 z5 z6 z7 z8 z9 z10 z11 z12
              rw [tidewracktop_TidewrackLines_j7] at H
              refine x_seq ?_
              refine wpIn_region_lit ?_
              refine x_run tab hk (k := 1) (lv := []) (ks := [8, 19, 20, 113, 114, 115, 135]) (e' := [(8, .pointer (some ⟨bx25, 0, none⟩)), (19, .string (rdD (⟨#[]⟩ : ByteArray) l3677 x6451)), (20, .slice A6786 (t6781.1).length c6787), (113, .slice (some ad6777) (l3677).length c6448), (114, .int .i64 ((l3677).length : Int)), (115, .int .i64 x6451), (135, .string (rdD (⟨#[]⟩ : ByteArray) l3677 x6451))]) rfl trivial fun a hk => ?_
              refine x_op hk rfl ?_
              obtain ⟨q6800, H⟩ := ifS H
              refine op_srange (o := o6795) tab hk rfl rfl 1481 0 fun r6801 w6797 o6798 st6799 f6802 => ?_
              replace f26 := f26.st st6799 (by decide)
              replace f5571 := f5571.st st6799 (by decide)
              replace f5576 := f5576.st st6799 (by decide)
              replace f5581 := f5581.st st6799 (by decide)
              replace f6449 := f6449.st st6799 (by decide)
              replace f6788 := f6788.st st6799 (by decide)
              replace fg0 := fg0.st st6799 (by decide)
              replace fg1 := fg1.st st6799 (by decide)
              replace fg2 := fg2.st st6799 (by decide)
              replace fg3 := fg3.st st6799 (by decide)
              replace hs := hs.loc0 st6799 (by decide)
              have hk := hk.put 136 (.pointer (some ⟨r6801, 0, none⟩)) rfl
              refine wpListIn_nil ?_
              refine then_n ?_
              refine wpIn_block ?_
              refine x_loop (fun j_ a_ w_ => ∃ o6824 : Nat → Nat, ∃ A6825 : Option Addr, ∃ c6826 : Nat, ∃ l6827 : List Int, Kn 151 a_ [(8, .pointer (some ⟨bx25, 0, none⟩)), (19, .string (rdD (⟨#[]⟩ : ByteArray) l3677 x6451)), (20, .slice A6786 (t6781.1).length c6787), (113, .slice (some ad6777) (l3677).length c6448), (114, .int .i64 ((l3677).length : Int)), (115, .int .i64 x6451), (136, .pointer A6825)] ∧ St [] w (fun _ => 0) w_ o6824 ∧ Ft (Bx bx25 61 [.slice A5568 (l5570).length c5569, .slice A5573 (l5575).length c5574, .slice A5578 (l5580).length c5579]) w_ o6824 1492 ∧ NOwn (dRows ET46) 43 A5568 c5569 l5570 w_ o6824 1489 1 ∧ Ft (Own (encInt .i64) 3 (.slice A5573 (l5575).length c5574) l5575) w_ o6824 1490 ∧ Ft (Own ET46 47 (.slice A5578 (l5580).length c5579) l5580) w_ o6824 1491 ∧ Ft (Own encStr 9 (.slice (some ad6777) (l3677).length c6448) l3677) w_ o6824 1494 ∧ Ft (Own ET46 47 (.slice A6786 (t6781.1).length c6787) t6781.1) w_ o6824 1493 ∧ SRng (rdD (⟨#[]⟩ : ByteArray) l3677 x6451) A6825 l6827 w_ o6824 1495 0 ∧ Ft (RdC ET109 (some ⟨0, 0, none⟩) glob0) w_ o6824 0 ∧ Ft (RdC ET109 (some ⟨1, 0, none⟩) glob1) w_ o6824 0 ∧ Ft (RdC (encInt .u32) (some ⟨2, 0, none⟩) glob2) w_ o6824 0 ∧ Ft (RdC ET141 (some ⟨3, 0, none⟩) glob3) w_ o6824 0 ∧ (l6827).length ≤ c6826 ∧ tidewracktop_TidewrackLines_l8 l3677 x6451 lp6662 t6781 j_ l6827 = some r) (k := K) ⟨(fun b_ => R_112 (o6798 b_)), (some ⟨r6801, 0, none⟩), ((idxs (rdD (⟨#[]⟩ : ByteArray) l3677 x6451) 0).length), (idxs (rdD (⟨#[]⟩ : ByteArray) l3677 x6451) 0), (by exact Kn.pick (ks := [8, 19, 20, 113, 114, 115, 136]) hk rfl), (hs.relab0 R_112 rfl), (f26.relab R_112 rfl), (f5571.relab R_112 rfl), (f5576.relab R_112 rfl), (f5581.relab R_112 rfl), (f6449.relab R_112 rfl), (f6788.relab R_112 rfl), (f6802.relab R_112 rfl), (fg0.relab R_112 rfl), (fg1.relab R_112 rfl), (fg2.relab R_112 rfl), (fg3.relab R_112 rfl), (Nat.le_refl _), H⟩ (fun _ _ z => z.elim fun _ z => z.elim fun _ z => z.elim fun _ z => z.elim fun _ z => z.elim fun _ z => z.elim fun _ z => z.elim fun _ z => z.elim fun _ z => z.elim fun _ z => z.elim fun _ z => z.elim fun _ z => z.elim fun _ z => z.elim fun _ z => z.elim fun _ z => z.elim fun _ z => z.elim fun _ z => z.elim fun _ z => z.elim fun _ z => absurd (show (none : Option Bool) = some r from z) (by simp)) ?_
              refine fun k6849 a w6848 z0 => z0.elim fun o6824 z1 => z1.elim fun A6825 z2 => z2.elim fun c6826 z3 => z3.elim fun l6827 z4 => z4.elim fun hk z5 => z5.elim fun hs z6 => z6.elim fun f26 z7 => z7.elim fun f5571 z8 => z8.elim fun f5576 z9 => z9.elim fun f5581 z10 => z10.elim fun f6449 z11 => z11.elim fun f6788 z12 => z12.elim fun f6828 z13 => z13.elim fun fg0 z14 => z14.elim fun fg1 z15 => z15.elim fun fg2 z16 => z16.elim fun fg3 z17 => z17.elim fun hc6829 H => ?_
              clear z0 z1 z2 z3 z4 z5 z6 z7 z8 z9 z10 z11 z12 z13 z14 z15 z16 z17
              rw [tidewracktop_TidewrackLines_l8] at H
              obtain ⟨lp6850, hlp6851⟩ : ∃ lp_, lp_ = tidewracktop_TidewrackLines_l8 l3677 x6451 lp6662 t6781 k6849 := ⟨_, rfl⟩
              rw [← hlp6851] at H
              refine x_seq ?_
              refine wpIn_region_lit ?_
              refine x_op hk rfl ?_
              refine op_snext hk rfl f6828 q6800 (fun hz6854 => ?_) (fun v6852 w6855 hm6853 st6856 f6857 => ?_)
              · replace H := sit_none H hz6854
                have hk := hk.put 137 (.tuple #[.bool false]) rfl
                refine x_run tab hk (k := 1) (lv := []) (ks := [8, 19, 20, 113, 114, 115, 136, 137, 138]) (e' := [(8, .pointer (some ⟨bx25, 0, none⟩)), (19, .string (rdD (⟨#[]⟩ : ByteArray) l3677 x6451)), (20, .slice A6786 (t6781.1).length c6787), (113, .slice (some ad6777) (l3677).length c6448), (114, .int .i64 ((l3677).length : Int)), (115, .int .i64 x6451), (136, .pointer A6825), (137, .tuple #[.bool false]), (138, .bool false)]) rfl trivial fun a hk => ?_
                refine wpListIn_nil ?_
                refine then_n ?_
                refine x_seq ?_
                refine x_if hk (b := false) rfl ?_
                refine (show Code.wpIn _ _ _ _ _ _ _ from ?_)
                refine wpIn_exit ?_
                refine then_x ?_
                refine then_x ?_
                refine blk_x ?_
                refine blk_n ?_
                refine then_n ?_
                exact ⟨(fun b_ => R_113 (o6824 b_)), (some ad6777), c6448, (by exact Kn.pick (ks := [8, 113, 114, 115]) hk rfl), (hs.relab0 R_113 rfl), (f26.relab R_113 rfl), (f5571.relab R_113 rfl), (f5576.relab R_113 rfl), (f5581.relab R_113 rfl), (f6449.relab R_113 rfl), (fg0.relab R_113 rfl), (fg1.relab R_113 rfl), (fg2.relab R_113 rfl), (fg3.relab R_113 rfl), hc6450, H⟩
              · replace H := sit_more H hm6853
                replace f26 := f26.st st6856 (by decide)
                replace f5571 := f5571.st st6856 (by decide)
                replace f5576 := f5576.st st6856 (by decide)
                replace f5581 := f5581.st st6856 (by decide)
                replace f6449 := f6449.st st6856 (by decide)
                replace f6788 := f6788.st st6856 (by decide)
                replace fg0 := fg0.st st6856 (by decide)
                replace fg1 := fg1.st st6856 (by decide)
                replace fg2 := fg2.st st6856 (by decide)
                replace fg3 := fg3.st st6856 (by decide)
                replace hs := hs.loc0 st6856 (by decide)
                have hk := hk.put 137 (.tuple #[.bool true, .int .i64 (List.headD l6827 0), v6852]) rfl
                refine x_run tab hk (k := 1) (lv := []) (ks := [8, 19, 20, 113, 114, 115, 136, 137, 138]) (e' := [(8, .pointer (some ⟨bx25, 0, none⟩)), (19, .string (rdD (⟨#[]⟩ : ByteArray) l3677 x6451)), (20, .slice A6786 (t6781.1).length c6787), (113, .slice (some ad6777) (l3677).length c6448), (114, .int .i64 ((l3677).length : Int)), (115, .int .i64 x6451), (136, .pointer A6825), (137, .tuple #[.bool true, .int .i64 (List.headD l6827 0), v6852]), (138, .bool true)]) rfl trivial fun a hk => ?_
                refine wpListIn_nil ?_
                refine then_n ?_
                refine x_seq ?_
                refine x_if hk (b := true) rfl ?_
                refine (show Code.wpIn _ _ _ _ _ _ _ from ?_)
                refine wpIn_skip ?_
                refine then_n ?_
                refine wpIn_block ?_
                refine x_seq ?_
                refine wpIn_region_lit ?_
                refine x_run tab hk (k := 2) (lv := []) (ks := [8, 19, 20, 22, 113, 114, 115, 136]) (e' := [(8, .pointer (some ⟨bx25, 0, none⟩)), (19, .string (rdD (⟨#[]⟩ : ByteArray) l3677 x6451)), (20, .slice A6786 (t6781.1).length c6787), (22, .int .i64 (List.headD l6827 0)), (113, .slice (some ad6777) (l3677).length c6448), (114, .int .i64 ((l3677).length : Int)), (115, .int .i64 x6451), (136, .pointer A6825)]) rfl trivial fun a hk => ?_
                refine wpListIn_nil ?_
                refine then_n ?_
                refine x_seq ?_
                refine xd_begin (o := o6824) (fun W_ => (Own ET46 47 (.slice A6786 (t6781.1).length c6787) t6781.1) W_ ∧ True) mixed rfl rfl fun w6864 st6865 => ?_
                replace f26 := f26.st st6865 (by decide)
                replace f5571 := f5571.st st6865 (by decide)
                replace f5576 := f5576.st st6865 (by decide)
                replace f5581 := f5581.st st6865 (by decide)
                replace f6449 := f6449.st st6865 (by decide)
                replace f6788 := f6788.st st6865 (by decide)
                replace f6857 := f6857.st st6865 (by decide)
                replace fg0 := fg0.st st6865 (by decide)
                replace fg1 := fg1.st st6865 (by decide)
                replace fg2 := fg2.st st6865 (by decide)
                replace fg3 := fg3.st st6865 (by decide)
                replace hs := hs.loc0 st6865 (by decide)
                obtain ⟨q6866, H⟩ := ifS H
                obtain ⟨ad6867, hAad6867⟩ := RdC.addr (Own.rd f6788.now) q6866
                have hk_C := hk
                have f26_C := f26
                have f5571_C := f5571
                have f5576_C := f5576
                have f5581_C := f5581
                have f6449_C := f6449
                have f6788_C := f6788
                have f6857_C := f6857
                have fg0_C := fg0
                have fg1_C := fg1
                have fg2_C := fg2
                have fg3_C := fg3
                subst hAad6867
                have hk := hk_C
                clear hk_C
                have f26 := f26_C
                clear f26_C
                have f5571 := f5571_C
                clear f5571_C
                have f5576 := f5576_C
                clear f5576_C
                have f5581 := f5581_C
                clear f5581_C
                have f6449 := f6449_C
                clear f6449_C
                have f6788 := f6788_C
                clear f6788_C
                have f6857 := f6857_C
                clear f6857_C
                have fg0 := fg0_C
                clear fg0_C
                have fg1 := fg1_C
                clear fg1_C
                have fg2 := fg2_C
                clear fg2_C
                have fg3 := fg3_C
                clear fg3_C
                obtain ⟨q6868, H⟩ := ifS H
                refine xd_take tab hk (k := 0) (is := [0, 1, 2, 3, 4, 5, 6, 7, 8, 9]) (ls' := #[true, true, true, true, true, true, true, true, true, true]) (lv := [.int .i32 ((rdD zT46 t6781.1 (List.headD l6827 0)).Rune)]) (ks := [8, 19, 20, 113, 114, 115, 136, 149]) (e' := [(8, .pointer (some ⟨bx25, 0, none⟩)), (19, .string (rdD (⟨#[]⟩ : ByteArray) l3677 x6451)), (20, .slice (some ad6867) (t6781.1).length c6787), (113, .slice (some ad6777) (l3677).length c6448), (114, .int .i64 ((l3677).length : Int)), (115, .int .i64 x6451), (136, .pointer A6825), (149, .bool (((rdD zT46 t6781.1 (List.headD l6827 0)).Rune) != (IntKind.wrap .i32 (bt (rdD (⟨#[]⟩ : ByteArray) l3677 x6451) (List.headD l6827 0)))))]) (by kernel_rfl) rfl rfl (by kernel_rfl) (np_then (np_blk (np_then (np_blk (np_blk (np_then (np_then (np_blk (np_then np_body))))))))) ⟨f6788.now, trivial⟩ (fun W_ hS => ⟨q6866, (load1 tab rfl (RdC.at (E := ET46) (d := zT46) (i := (List.headD l6827 0)) (j := 0) (Own.rd hS.1) q6866 rfl)), q6868, trivial⟩) fun a hk => ?_
                refine xd_done (by kernel_rfl) ?_
                refine then_n ?_
                cases b6869 : (((rdD zT46 t6781.1 (List.headD l6827 0)).Rune) != (IntKind.wrap .i32 (bt (rdD (⟨#[]⟩ : ByteArray) l3677 x6451) (List.headD l6827 0))))
                · rw [b6869] at hk H
                  replace H := bifF H
                  refine x_if hk (b := false) rfl ?_
                  refine (show Code.wpIn _ _ _ _ _ _ _ from ?_)
                  refine wpIn_skip ?_
                  refine blk_n ?_
                  refine then_n ?_
                  exact ⟨k6849, Nat.le_refl _, o6824, A6825, c6826, (List.tail l6827), (by exact Kn.pick (ks := [8, 19, 20, 113, 114, 115, 136]) hk rfl), hs, f26, f5571, f5576, f5581, f6449, f6788, f6857, fg0, fg1, fg2, fg3, (Nat.le_trans (by simp) hc6829), (hlp6851 ▸ H)⟩
                · rw [b6869] at hk H
                  replace H := bifT H
                  refine x_if hk (b := true) rfl ?_
                  refine (show Code.wpIn _ _ _ _ _ _ _ from ?_)
                  refine x_seq ?_
                  refine wpIn_region_lit ?_
                  refine x_run tab hk (k := 1) (lv := []) (ks := [6]) (e' := [(6, .bool false)]) rfl trivial fun a hk => ?_
                  refine wpListIn_nil ?_
                  refine then_n ?_
                  refine wpIn_ret ?_
                  refine blk_r ?_
                  refine then_r ?_
                  refine blk_r ?_
                  refine blk_r ?_
                  refine then_r ?_
                  refine then_r ?_
                  refine blk_r ?_
                  refine then_r ?_
                  obtain rfl := Option.some.inj H
                  exact x_retG hk (rs := [.tmp 6]) (vs := [.bool false]) rfl ⟨rfl, trivial⟩ ⟨fun b_ => if b_ < w.heap.size then o b_ else (fun _ => 0) (o6824 b_), rfl, hs.close0 o (fun _ => 0)⟩
            refine x_seq ?_
            refine wpIn_region_lit ?_
            refine x_run tab hk (k := 3) (lv := []) (ks := [8, 19, 20, 113, 114, 115, 128]) (e' := [(8, .pointer (some ⟨bx25, 0, none⟩)), (19, .string (rdD (⟨#[]⟩ : ByteArray) l3677 x6451)), (20, .slice A6786 (t6781.1).length c6787), (113, .slice (some ad6777) (l3677).length c6448), (114, .int .i64 ((l3677).length : Int)), (115, .int .i64 x6451), (128, .bool (!t6781.2))]) rfl trivial fun a hk => ?_
            cases b6870 : (!t6781.2)
            · rw [b6870] at hk H
              replace H := bifF H
              refine x_run tab hk (k := 6) (lv := []) (ks := [8, 19, 20, 113, 114, 115, 134]) (e' := [(8, .pointer (some ⟨bx25, 0, none⟩)), (19, .string (rdD (⟨#[]⟩ : ByteArray) l3677 x6451)), (20, .slice A6786 (t6781.1).length c6787), (113, .slice (some ad6777) (l3677).length c6448), (114, .int .i64 ((l3677).length : Int)), (115, .int .i64 x6451), (134, .bool (((t6781.1).length : Int) != (((rdD (⟨#[]⟩ : ByteArray) l3677 x6451)).size : Int)))]) rfl trivial fun a hk => ?_
              refine wpListIn_nil ?_
              refine then_n ?_
              cases b6871 : (((t6781.1).length : Int) != (((rdD (⟨#[]⟩ : ByteArray) l3677 x6451)).size : Int))
              · rw [b6871] at hk H
                replace H := bifF H
                refine x_if hk (b := false) rfl ?_
                refine (show Code.wpIn _ _ _ _ _ _ _ from ?_)
                refine wpIn_skip ?_
                refine then_n ?_
                exact ⟨(fun b_ => R_114 (o6784 b_)), (by exact Kn.pick (ks := [8, 19, 20, 113, 114, 115]) hk rfl), (hs.relab0 R_114 rfl), (f26.relab R_114 rfl), (f5571.relab R_114 rfl), (f5576.relab R_114 rfl), (f5581.relab R_114 rfl), (f6449.relab R_114 rfl), (f6788.relab R_114 rfl), (fg0.relab R_114 rfl), (fg1.relab R_114 rfl), (fg2.relab R_114 rfl), (fg3.relab R_114 rfl), H⟩
              · rw [b6871] at hk H
                replace H := bifT H
                refine x_if hk (b := true) rfl ?_
                refine (show Code.wpIn _ _ _ _ _ _ _ from ?_)
                refine x_seq ?_
                refine wpIn_region_lit ?_
                refine x_run tab hk (k := 1) (lv := []) (ks := [6]) (e' := [(6, .bool false)]) rfl trivial fun a hk => ?_
                refine wpListIn_nil ?_
                refine then_n ?_
                refine wpIn_ret ?_
                refine then_r ?_
                refine blk_r ?_
                refine then_r ?_
                refine then_r ?_
                refine blk_r ?_
                refine then_r ?_
                obtain rfl := Option.some.inj H
                exact x_retG hk (rs := [.tmp 6]) (vs := [.bool false]) rfl ⟨rfl, trivial⟩ ⟨fun b_ => if b_ < w.heap.size then o b_ else (fun _ => 0) (o6784 b_), rfl, hs.close0 o (fun _ => 0)⟩
            · rw [b6870] at hk H
              replace H := bifT H
              refine x_run tab hk (k := 6) (lv := []) (ks := [8, 19, 20, 113, 114, 115, 134]) (e' := [(8, .pointer (some ⟨bx25, 0, none⟩)), (19, .string (rdD (⟨#[]⟩ : ByteArray) l3677 x6451)), (20, .slice A6786 (t6781.1).length c6787), (113, .slice (some ad6777) (l3677).length c6448), (114, .int .i64 ((l3677).length : Int)), (115, .int .i64 x6451), (134, .bool true)]) rfl trivial fun a hk => ?_
              refine wpListIn_nil ?_
              refine then_n ?_
              refine x_if hk (b := true) rfl ?_
              refine (show Code.wpIn _ _ _ _ _ _ _ from ?_)
              refine x_seq ?_
              refine wpIn_region_lit ?_
              refine x_run tab hk (k := 1) (lv := []) (ks := [6]) (e' := [(6, .bool false)]) rfl trivial fun a hk => ?_
              refine wpListIn_nil ?_
              refine then_n ?_
              refine wpIn_ret ?_
              refine then_r ?_
              refine blk_r ?_
              refine then_r ?_
              refine then_r ?_
              refine blk_r ?_
              refine then_r ?_
              obtain rfl := Option.some.inj H
              exact x_retG hk (rs := [.tmp 6]) (vs := [.bool false]) rfl ⟨rfl, trivial⟩ ⟨fun b_ => if b_ < w.heap.size then o b_ else (fun _ => 0) (o6784 b_), rfl, hs.close0 o (fun _ => 0)⟩
        · rw [b5592] at hk H
          replace H := bifT H
          refine x_if hk (b := true) rfl ?_
          refine (show Code.wpIn _ _ _ _ _ _ _ from ?_)
          refine x_seq ?_
          refine wpIn_region_lit ?_
          refine x_run tab hk (k := 1) (lv := []) (ks := [6]) (e' := [(6, .bool false)]) rfl trivial fun a hk => ?_
          refine wpListIn_nil ?_
          refine then_n ?_
          refine wpIn_ret ?_
          refine then_r ?_
          obtain rfl := Option.some.inj H
          exact x_retG hk (rs := [.tmp 6]) (vs := [.bool false]) rfl ⟨rfl, trivial⟩ ⟨fun b_ => if b_ < w.heap.size then o b_ else (fun _ => 0) (o5590 b_), rfl, hs.close0 o (fun _ => 0)⟩
      refine x_seq ?_
      refine wpIn_region_lit ?_
      refine x_run tab hk (k := 2) (lv := []) (ks := [7, 8, 9, 10, 92, 93]) (e' := [(7, .pointer (some ⟨bx9, 0, none⟩)), (8, .pointer (some ⟨bx25, 0, none⟩)), (9, .pointer (some ⟨bx47, 0, none⟩)), (10, .slice A3675 (l3677).length c3676), (92, .int .i64 (IntKind.wrap .i64 (1 + (bits .and .i64 p2 3)))), (93, .int .i64 0)]) rfl trivial fun a hk => ?_
      refine wpListIn_nil ?_
      refine then_n ?_
      refine wpIn_block ?_
      refine x_loop (fun j_ a_ w_ => ∃ o7475 : Nat → Nat, ∃ bx7476 : Nat, ∃ x7478 : Int, ∃ A7479 : Option Addr, ∃ c7480 : Nat, ∃ l7481 : List T65, ∃ x7484 : Int, ∃ x7485 : Int, ∃ x7486 : Int, ∃ x7487 : Int, ∃ x7488 : Bool, ∃ x7489 : Bool, ∃ x7490 : Bool, ∃ x7491 : Int, ∃ x7492 : Int, ∃ x7493 : Int, ∃ x7494 : Int, ∃ x7495 : Bool, ∃ x7496 : Bool, ∃ x7497 : Bool, ∃ x7498 : Bool, ∃ x7499 : Int, ∃ x7500 : Int, ∃ x7501 : Bool, ∃ x7502 : ByteArray, ∃ A7503 : Option Addr, ∃ c7504 : Nat, ∃ l7505 : List (List T46), ∃ A7508 : Option Addr, ∃ c7509 : Nat, ∃ l7510 : List Int, ∃ A7513 : Option Addr, ∃ c7514 : Nat, ∃ l7515 : List T46, ∃ x7518 : Int, ∃ x7519 : Bool, ∃ x7520 : Bool, ∃ x7521 : Bool, ∃ x7522 : Bool, ∃ x7523 : Int, ∃ A7524 : Option Addr, ∃ c7525 : Nat, ∃ l7526 : List Int, ∃ x7529 : ByteArray, ∃ x7530 : Int, ∃ x7531 : Int, ∃ x7532 : Int, ∃ x7533 : Int, Kn 151 a_ [(7, .pointer (some ⟨bx9, 0, none⟩)), (8, .pointer (some ⟨bx25, 0, none⟩)), (9, .pointer (some ⟨bx47, 0, none⟩)), (10, .slice A3675 (l3677).length c3676), (92, .int .i64 (IntKind.wrap .i64 (1 + (bits .and .i64 p2 3)))), (93, .int .i64 x7533)] ∧ St [] w (fun _ => 0) w_ o7475 ∧ Ft (Bx bx9 56 [.pointer (some ⟨bx7476, 0, none⟩), .int .i64 x7484, .int .i64 x7485, .int .i64 x7486, .int .i64 x7487, .bool x7488, .bool x7489, .bool x7490, .int .i64 x7491, .int .i64 x7492, .int .i64 x7493, .int .i64 x7494, .bool x7495, .bool x7496, .bool x7497, .bool x7498, .int .i64 x7499, .int .i64 x7500, .bool x7501, .string x7502]) w_ o7475 1578 ∧ Ft (Bx bx25 61 [.slice A7503 (l7505).length c7504, .slice A7508 (l7510).length c7509, .slice A7513 (l7515).length c7514]) w_ o7475 1582 ∧ Ft (Own encStr 9 (.slice A3675 (l3677).length c3676) l3677) w_ o7475 1585 ∧ Ft (Bx bx47 34 [.int .i64 x7518, .bool x7519, .bool x7520, .bool x7521, .bool x7522, .int .i64 x7523, .slice A7524 (l7526).length c7525, .string x7529, .int .u8 x7530, .int .i32 x7531, .int .i64 x7532, .slice none 0 0]) w_ o7475 1584 ∧ Ft (Bx bx7476 75 [.int .i64 x7478, .slice A7479 (l7481).length c7480]) w_ o7475 1577 ∧ NOwn dT65 66 A7479 c7480 l7481 w_ o7475 1576 1 ∧ NOwn (dRows ET46) 43 A7503 c7504 l7505 w_ o7475 1579 1 ∧ Ft (Own (encInt .i64) 3 (.slice A7508 (l7510).length c7509) l7510) w_ o7475 1580 ∧ Ft (Own ET46 47 (.slice A7513 (l7515).length c7514) l7515) w_ o7475 1581 ∧ Ft (Own (encInt .i64) 3 (.slice A7524 (l7526).length c7525) l7526) w_ o7475 1583 ∧ Ft (RdC ET109 (some ⟨0, 0, none⟩) glob0) w_ o7475 0 ∧ Ft (RdC ET109 (some ⟨1, 0, none⟩) glob1) w_ o7475 0 ∧ Ft (RdC (encInt .u32) (some ⟨2, 0, none⟩) glob2) w_ o7475 0 ∧ Ft (RdC ET141 (some ⟨3, 0, none⟩) glob3) w_ o7475 0 ∧ (l7481).length ≤ c7480 ∧ (l7505).length ≤ c7504 ∧ (l7510).length ≤ c7509 ∧ (l7515).length ≤ c7514 ∧ (l7526).length ≤ c7525 ∧ tidewracktop_TidewrackLines_l9 K p2 l3677 j_ x7478 l7481 x7484 x7485 x7486 x7487 x7488 x7489 x7490 x7491 x7492 x7493 x7494 x7495 x7496 x7497 x7498 x7499 x7500 x7501 x7502 l7505 l7510 l7515 x7518 x7519 x7520 x7521 x7522 x7523 l7526 x7529 x7530 x7531 x7532 x7533 = some r) (k := K) ⟨(fun b_ => R_115 (o3617 b_)), bx3618, x3620, A3621, c3622, l3623, x3626, x3627, x3628, x3629, x3630, x3631, x3632, x3633, x3634, x3635, x3636, x3637, x3638, x3639, x3640, x3641, x3642, x3643, x3644, A3645, c3646, l3647, A3650, c3651, l3652, A3655, c3656, l3657, x3660, x3661, x3662, x3663, x3664, x3665, A3666, c3667, l3668, x3671, x3672, x3673, x3674, 0, (by exact Kn.pick (ks := [7, 8, 9, 10, 92, 93]) hk rfl), (hs.relab0 R_115 rfl), (f10.relab R_115 rfl), (f26.relab R_115 rfl), (f3678.relab R_115 rfl), (f48.relab R_115 rfl), (f3619.relab R_115 rfl), (f3624.relab R_115 rfl), (f3648.relab R_115 rfl), (f3653.relab R_115 rfl), (f3658.relab R_115 rfl), (f3669.relab R_115 rfl), (fg0.relab R_115 rfl), (fg1.relab R_115 rfl), (fg2.relab R_115 rfl), (fg3.relab R_115 rfl), hc3625, hc3649, hc3654, hc3659, hc3670, H⟩ (fun _ _ z => z.elim fun _ z => z.elim fun _ z => z.elim fun _ z => z.elim fun _ z => z.elim fun _ z => z.elim fun _ z => z.elim fun _ z => z.elim fun _ z => z.elim fun _ z => z.elim fun _ z => z.elim fun _ z => z.elim fun _ z => z.elim fun _ z => z.elim fun _ z => z.elim fun _ z => z.elim fun _ z => z.elim fun _ z => z.elim fun _ z => z.elim fun _ z => z.elim fun _ z => z.elim fun _ z => z.elim fun _ z => z.elim fun _ z => z.elim fun _ z => z.elim fun _ z => z.elim fun _ z => z.elim fun _ z => z.elim fun _ z => z.elim fun _ z => z.elim fun _ z => z.elim fun _ z => z.elim fun _ z => z.elim fun _ z => z.elim fun _ z => z.elim fun _ z => z.elim fun _ z => z.elim fun _ z => z.elim fun _ z => z.elim fun _ z => z.elim fun _ z => z.elim fun _ z => z.elim fun _ z => z.elim fun _ z => z.elim fun _ z => z.elim fun _ z => z.elim fun _ z => z.elim fun _ z => z.elim fun _ z => z.elim fun _ z => z.elim fun _ z => z.elim fun _ z => z.elim fun _ z => z.elim fun _ z => z.elim fun _ z => z.elim fun _ z => z.elim fun _ z => z.elim fun _ z => z.elim fun _ z => z.elim fun _ z => z.elim fun _ z => z.elim fun _ z => z.elim fun _ z => z.elim fun _ z => z.elim fun _ z => z.elim fun _ z => z.elim fun _ z => z.elim fun _ z => z.elim fun _ z => z.elim fun _ z => absurd (show (none : Option Bool) = some r from z) (by simp)) ?_
      refine fun k8135 a w8134 z0 => z0.elim fun o7475 z1 => z1.elim fun bx7476 z2 => z2.elim fun x7478 z3 => z3.elim fun A7479 z4 => z4.elim fun c7480 z5 => z5.elim fun l7481 z6 => z6.elim fun x7484 z7 => z7.elim fun x7485 z8 => z8.elim fun x7486 z9 => z9.elim fun x7487 z10 => z10.elim fun x7488 z11 => z11.elim fun x7489 z12 => z12.elim fun x7490 z13 => z13.elim fun x7491 z14 => z14.elim fun x7492 z15 => z15.elim fun x7493 z16 => z16.elim fun x7494 z17 => z17.elim fun x7495 z18 => z18.elim fun x7496 z19 => z19.elim fun x7497 z20 => z20.elim fun x7498 z21 => z21.elim fun x7499 z22 => z22.elim fun x7500 z23 => z23.elim fun x7501 z24 => z24.elim fun x7502 z25 => z25.elim fun A7503 z26 => z26.elim fun c7504 z27 => z27.elim fun l7505 z28 => z28.elim fun A7508 z29 => z29.elim fun c7509 z30 => z30.elim fun l7510 z31 => z31.elim fun A7513 z32 => z32.elim fun c7514 z33 => z33.elim fun l7515 z34 => z34.elim fun x7518 z35 => z35.elim fun x7519 z36 => z36.elim fun x7520 z37 => z37.elim fun x7521 z38 => z38.elim fun x7522 z39 => z39.elim fun x7523 z40 => z40.elim fun A7524 z41 => z41.elim fun c7525 z42 => z42.elim fun l7526 z43 => z43.elim fun x7529 z44 => z44.elim fun x7530 z45 => z45.elim fun x7531 z46 => z46.elim fun x7532 z47 => z47.elim fun x7533 z48 => z48.elim fun hk z49 => z49.elim fun hs z50 => z50.elim fun f10 z51 => z51.elim fun f26 z52 => z52.elim fun f3678 z53 => z53.elim fun f48 z54 => z54.elim fun f7477 z55 => z55.elim fun f7482 z56 => z56.elim fun f7506 z57 => z57.elim fun f7511 z58 => z58.elim fun f7516 z59 => z59.elim fun f7527 z60 => z60.elim fun fg0 z61 => z61.elim fun fg1 z62 => z62.elim fun fg2 z63 => z63.elim fun fg3 z64 => z64.elim fun hc7483 z65 => z65.elim fun hc7507 z66 => z66.elim fun hc7512 z67 => z67.elim fun hc7517 z68 => z68.elim fun hc7528 H => ?_
      clear z0 z1 z2 z3 z4 z5 z6 z7 z8 z9 z10 z11 z12 z13 z14 z15 z16 z17 z18 z19 z20 z21 z22 z23 z24 z25 z26 z27 z28 z29 z30 z31 z32 z33 z34 z35 z36 z37 z38 z39 z40 z41 z42 z43 z44 z45 z46 z47 z48 z49 z50 z51 z52 z53 z54 z55 z56 z57 z58 z59 z60 z61 z62 z63 z64 z65 z66 z67 z68
      rw [tidewracktop_TidewrackLines_l9] at H
      obtain ⟨lp8136, hlp8137⟩ : ∃ lp_, lp_ = tidewracktop_TidewrackLines_l9 K p2 l3677 k8135 := ⟨_, rfl⟩
      rw [← hlp8137] at H
      refine x_seq ?_
      refine wpIn_region_lit ?_
      refine x_run tab hk (k := 1) (lv := []) (ks := [7, 8, 9, 10, 92, 93, 94]) (e' := [(7, .pointer (some ⟨bx9, 0, none⟩)), (8, .pointer (some ⟨bx25, 0, none⟩)), (9, .pointer (some ⟨bx47, 0, none⟩)), (10, .slice A3675 (l3677).length c3676), (92, .int .i64 (IntKind.wrap .i64 (1 + (bits .and .i64 p2 3)))), (93, .int .i64 x7533), (94, .bool (decide (x7533 < (IntKind.wrap .i64 (1 + (bits .and .i64 p2 3))))))]) rfl trivial fun a hk => ?_
      refine wpListIn_nil ?_
      refine then_n ?_
      refine x_seq ?_
      cases b8138 : (decide (x7533 < (IntKind.wrap .i64 (1 + (bits .and .i64 p2 3)))))
      · rw [b8138] at hk H
        replace H := bifF H
        refine x_if hk (b := false) rfl ?_
        refine (show Code.wpIn _ _ _ _ _ _ _ from ?_)
        refine wpIn_exit ?_
        refine then_x ?_
        refine then_x ?_
        refine blk_x ?_
        refine then_n ?_
        exact ⟨(fun b_ => R_116 (o7475 b_)), A7503, c7504, l7505, A7508, c7509, l7510, A7513, c7514, l7515, (by exact Kn.pick (ks := [8, 10]) hk rfl), (hs.relab0 R_116 rfl), (f26.relab R_116 rfl), (f3678.relab R_116 rfl), (f7506.relab R_116 rfl), (f7511.relab R_116 rfl), (f7516.relab R_116 rfl), (fg0.relab R_116 rfl), (fg1.relab R_116 rfl), (fg2.relab R_116 rfl), (fg3.relab R_116 rfl), hc7507, hc7512, hc7517, H⟩
      · rw [b8138] at hk H
        replace H := bifT H
        refine x_if hk (b := true) rfl ?_
        refine (show Code.wpIn _ _ _ _ _ _ _ from ?_)
        refine wpIn_skip ?_
        refine then_n ?_
        refine x_mid (fun a_ w_ => ∃ o8440 : Nat → Nat, ∃ bx8441 : Nat, ∃ x8443 : Int, ∃ A8444 : Option Addr, ∃ c8445 : Nat, ∃ l8446 : List T65, ∃ x8449 : Int, ∃ x8450 : Int, ∃ x8451 : Int, ∃ x8452 : Int, ∃ x8453 : Bool, ∃ x8454 : Bool, ∃ x8455 : Bool, ∃ x8456 : Int, ∃ x8457 : Int, ∃ x8458 : Int, ∃ x8459 : Int, ∃ x8460 : Bool, ∃ x8461 : Bool, ∃ x8462 : Bool, ∃ x8463 : Bool, ∃ x8464 : Int, ∃ x8465 : Int, ∃ x8466 : Bool, ∃ x8467 : ByteArray, ∃ A8468 : Option Addr, ∃ c8469 : Nat, ∃ l8470 : List (List T46), ∃ A8473 : Option Addr, ∃ c8474 : Nat, ∃ l8475 : List Int, ∃ A8478 : Option Addr, ∃ c8479 : Nat, ∃ l8480 : List T46, ∃ x8483 : Int, ∃ x8484 : Bool, ∃ x8485 : Bool, ∃ x8486 : Bool, ∃ x8487 : Bool, ∃ x8488 : Int, ∃ A8489 : Option Addr, ∃ c8490 : Nat, ∃ l8491 : List Int, ∃ x8494 : ByteArray, ∃ x8495 : Int, ∃ x8496 : Int, ∃ x8497 : Int, Kn 151 a_ [(7, .pointer (some ⟨bx9, 0, none⟩)), (8, .pointer (some ⟨bx25, 0, none⟩)), (9, .pointer (some ⟨bx47, 0, none⟩)), (10, .slice A3675 (l3677).length c3676), (92, .int .i64 (IntKind.wrap .i64 (1 + (bits .and .i64 p2 3)))), (93, .int .i64 x7533)] ∧ St [] w (fun _ => 0) w_ o8440 ∧ Ft (Bx bx9 56 [.pointer (some ⟨bx8441, 0, none⟩), .int .i64 x8449, .int .i64 x8450, .int .i64 x8451, .int .i64 x8452, .bool x8453, .bool x8454, .bool x8455, .int .i64 x8456, .int .i64 x8457, .int .i64 x8458, .int .i64 x8459, .bool x8460, .bool x8461, .bool x8462, .bool x8463, .int .i64 x8464, .int .i64 x8465, .bool x8466, .string x8467]) w_ o8440 1688 ∧ Ft (Bx bx25 61 [.slice A8468 (l8470).length c8469, .slice A8473 (l8475).length c8474, .slice A8478 (l8480).length c8479]) w_ o8440 1692 ∧ Ft (Own encStr 9 (.slice A3675 (l3677).length c3676) l3677) w_ o8440 1695 ∧ Ft (Bx bx47 34 [.int .i64 x8483, .bool x8484, .bool x8485, .bool x8486, .bool x8487, .int .i64 x8488, .slice A8489 (l8491).length c8490, .string x8494, .int .u8 x8495, .int .i32 x8496, .int .i64 x8497, .slice none 0 0]) w_ o8440 1694 ∧ Ft (Bx bx8441 75 [.int .i64 x8443, .slice A8444 (l8446).length c8445]) w_ o8440 1687 ∧ NOwn dT65 66 A8444 c8445 l8446 w_ o8440 1686 1 ∧ NOwn (dRows ET46) 43 A8468 c8469 l8470 w_ o8440 1689 1 ∧ Ft (Own (encInt .i64) 3 (.slice A8473 (l8475).length c8474) l8475) w_ o8440 1690 ∧ Ft (Own ET46 47 (.slice A8478 (l8480).length c8479) l8480) w_ o8440 1691 ∧ Ft (Own (encInt .i64) 3 (.slice A8489 (l8491).length c8490) l8491) w_ o8440 1693 ∧ Ft (RdC ET109 (some ⟨0, 0, none⟩) glob0) w_ o8440 0 ∧ Ft (RdC ET109 (some ⟨1, 0, none⟩) glob1) w_ o8440 0 ∧ Ft (RdC (encInt .u32) (some ⟨2, 0, none⟩) glob2) w_ o8440 0 ∧ Ft (RdC ET141 (some ⟨3, 0, none⟩) glob3) w_ o8440 0 ∧ (l8446).length ≤ c8445 ∧ (l8470).length ≤ c8469 ∧ (l8475).length ≤ c8474 ∧ (l8480).length ≤ c8479 ∧ (l8491).length ≤ c8490 ∧ tidewracktop_TidewrackLines_j10 x7533 lp8136 x8443 l8446 x8449 x8450 x8451 x8452 x8453 x8454 x8455 x8456 x8457 x8458 x8459 x8460 x8461 x8462 x8463 x8464 x8465 x8466 x8467 l8470 l8475 l8480 x8483 x8484 x8485 x8486 x8487 x8488 l8491 x8494 x8495 x8496 x8497 = some r) ?_ ?_
        rotate_left
        · refine fun a w8498 z0 => z0.elim fun o8440 z1 => z1.elim fun bx8441 z2 => z2.elim fun x8443 z3 => z3.elim fun A8444 z4 => z4.elim fun c8445 z5 => z5.elim fun l8446 z6 => z6.elim fun x8449 z7 => z7.elim fun x8450 z8 => z8.elim fun x8451 z9 => z9.elim fun x8452 z10 => z10.elim fun x8453 z11 => z11.elim fun x8454 z12 => z12.elim fun x8455 z13 => z13.elim fun x8456 z14 => z14.elim fun x8457 z15 => z15.elim fun x8458 z16 => z16.elim fun x8459 z17 => z17.elim fun x8460 z18 => z18.elim fun x8461 z19 => z19.elim fun x8462 z20 => z20.elim fun x8463 z21 => z21.elim fun x8464 z22 => z22.elim fun x8465 z23 => z23.elim fun x8466 z24 => z24.elim fun x8467 z25 => z25.elim fun A8468 z26 => z26.elim fun c8469 z27 => z27.elim fun l8470 z28 => z28.elim fun A8473 z29 => z29.elim fun c8474 z30 => z30.elim fun l8475 z31 => z31.elim fun A8478 z32 => z32.elim fun c8479 z33 => z33.elim fun l8480 z34 => z34.elim fun x8483 z35 => z35.elim fun x8484 z36 => z36.elim fun x8485 z37 => z37.elim fun x8486 z38 => z38.elim fun x8487 z39 => z39.elim fun x8488 z40 => z40.elim fun A8489 z41 => z41.elim fun c8490 z42 => z42.elim fun l8491 z43 => z43.elim fun x8494 z44 => z44.elim fun x8495 z45 => z45.elim fun x8496 z46 => z46.elim fun x8497 z47 => z47.elim fun hk z48 => z48.elim fun hs z49 => z49.elim fun f10 z50 => z50.elim fun f26 z51 => z51.elim fun f3678 z52 => z52.elim fun f8151 z53 => z53.elim fun f8442 z54 => z54.elim fun f8447 z55 => z55.elim fun f8471 z56 => z56.elim fun f8476 z57 => z57.elim fun f8481 z58 => z58.elim fun f8492 z59 => z59.elim fun fg0 z60 => z60.elim fun fg1 z61 => z61.elim fun fg2 z62 => z62.elim fun fg3 z63 => z63.elim fun hc8448 z64 => z64.elim fun hc8472 z65 => z65.elim fun hc8477 z66 => z66.elim fun hc8482 z67 => z67.elim fun hc8493 H => ?_
          clear z0 z1 z2 z3 z4 z5 z6 z7 z8 z9 z10 z11 z12 z13 z14 z15 z16 z17 z18 z19 z20 z21 z22 z23 z24 z25 z26 z27 z28 z29 z30 z31 z32 z33 z34 z35 z36 z37 z38 z39 z40 z41 z42 z43 z44 z45 z46 z47 z48 z49 z50 z51 z52 z53 z54 z55 z56 z57 z58 z59 z60 z61 z62 z63 z64 z65 z66 z67
          rw [tidewracktop_TidewrackLines_j10] at H
          refine wpIn_region_lit ?_
          refine x_run tab hk (k := 2) (lv := []) (ks := [7, 8, 9, 10, 92, 93]) (e' := [(7, .pointer (some ⟨bx9, 0, none⟩)), (8, .pointer (some ⟨bx25, 0, none⟩)), (9, .pointer (some ⟨bx47, 0, none⟩)), (10, .slice A3675 (l3677).length c3676), (92, .int .i64 (IntKind.wrap .i64 (1 + (bits .and .i64 p2 3)))), (93, .int .i64 (IntKind.wrap .i64 (x7533 + 1)))]) rfl trivial fun a hk => ?_
          refine wpListIn_nil ?_
          refine then_n ?_
          exact ⟨k8135, Nat.le_refl _, (fun b_ => R_117 (o8440 b_)), bx8441, x8443, A8444, c8445, l8446, x8449, x8450, x8451, x8452, x8453, x8454, x8455, x8456, x8457, x8458, x8459, x8460, x8461, x8462, x8463, x8464, x8465, x8466, x8467, A8468, c8469, l8470, A8473, c8474, l8475, A8478, c8479, l8480, x8483, x8484, x8485, x8486, x8487, x8488, A8489, c8490, l8491, x8494, x8495, x8496, x8497, (IntKind.wrap .i64 (x7533 + 1)), (by exact Kn.pick (ks := [7, 8, 9, 10, 92, 93]) hk rfl), (hs.relab0 R_117 rfl), (f10.relab R_117 rfl), (f26.relab R_117 rfl), (f3678.relab R_117 rfl), (f8151.relab R_117 rfl), (f8442.relab R_117 rfl), (f8447.relab R_117 rfl), (f8471.relab R_117 rfl), (f8476.relab R_117 rfl), (f8481.relab R_117 rfl), (f8492.relab R_117 rfl), (fg0.relab R_117 rfl), (fg1.relab R_117 rfl), (fg2.relab R_117 rfl), (fg3.relab R_117 rfl), hc8448, hc8472, hc8477, hc8482, hc8493, (hlp8137 ▸ H)⟩
        refine wpIn_block ?_
        refine x_seq ?_
        refine wpIn_region_lit ?_
        refine x_op hk rfl ?_
        obtain ⟨t8502, hc8503, H⟩ := bindS H
        refine op_call hk ent_6 (vs := [.pointer (some ⟨bx47, 0, none⟩), .string (⟨#[13, 10]⟩ : ByteArray)]) rfl (seq_Parser_Feed_calls K bx47 A7524 c7525 none 0 (⟨x7518, x7519, x7520, x7521, x7522, x7523, l7526, x7529, x7530, x7531, x7532, ([] : List T37)⟩ : T33) (⟨#[13, 10]⟩ : ByteArray) _ o7475 1 0 fg3 1584 f48 1583 f7527 hc7528 1696 (NOwn.nil _ _ _ _ 1696 1) (by simp) (by decide) (by decide) 1697  _ hc8503) ?_
        rintro _ w8504 ⟨o8505, A8507, c8508, A8512, c8513, rfl, st8506, f8509, hc8510, f8511, f8514, hc8515, f8516, hc8517⟩
        replace f10 := f10.st st8506 (by decide)
        replace f26 := f26.st st8506 (by decide)
        replace f3678 := f3678.st st8506 (by decide)
        replace f7477 := f7477.st st8506 (by decide)
        replace f7482 := f7482.st st8506 (by decide)
        replace f7506 := f7506.st st8506 (by decide)
        replace f7511 := f7511.st st8506 (by decide)
        replace f7516 := f7516.st st8506 (by decide)
        replace fg0 := fg0.st st8506 (by decide)
        replace fg1 := fg1.st st8506 (by decide)
        replace fg2 := fg2.st st8506 (by decide)
        replace fg3 := fg3.st st8506 (by decide)
        replace hs := hs.loc0 st8506 (by decide)
        have hz8518 : t8502.2.out = [] := NRd.nul f8516.rd
        have hk := hk.put 95 (.slice A8507 (t8502.1).length c8508) rfl
        refine x_run tab hk (k := 2) (lv := []) (ks := [7, 8, 9, 10, 92, 93, 95, 96, 97]) (e' := [(7, .pointer (some ⟨bx9, 0, none⟩)), (8, .pointer (some ⟨bx25, 0, none⟩)), (9, .pointer (some ⟨bx47, 0, none⟩)), (10, .slice A3675 (l3677).length c3676), (92, .int .i64 (IntKind.wrap .i64 (1 + (bits .and .i64 p2 3)))), (93, .int .i64 x7533), (95, .slice A8507 (t8502.1).length c8508), (96, .int .i64 ((t8502.1).length : Int)), (97, .int .i64 0)]) rfl trivial fun a hk => ?_
        refine wpListIn_nil ?_
        refine then_n ?_
        refine wpIn_block ?_
        refine x_loop (fun j_ a_ w_ => ∃ o8578 : Nat → Nat, ∃ bx8579 : Nat, ∃ x8581 : Int, ∃ A8582 : Option Addr, ∃ c8583 : Nat, ∃ l8584 : List T65, ∃ x8587 : Int, ∃ x8588 : Int, ∃ x8589 : Int, ∃ x8590 : Int, ∃ x8591 : Bool, ∃ x8592 : Bool, ∃ x8593 : Bool, ∃ x8594 : Int, ∃ x8595 : Int, ∃ x8596 : Int, ∃ x8597 : Int, ∃ x8598 : Bool, ∃ x8599 : Bool, ∃ x8600 : Bool, ∃ x8601 : Bool, ∃ x8602 : Int, ∃ x8603 : Int, ∃ x8604 : Bool, ∃ x8605 : ByteArray, ∃ A8606 : Option Addr, ∃ c8607 : Nat, ∃ l8608 : List (List T46), ∃ A8611 : Option Addr, ∃ c8612 : Nat, ∃ l8613 : List Int, ∃ A8616 : Option Addr, ∃ c8617 : Nat, ∃ l8618 : List T46, ∃ x8621 : Int, Kn 151 a_ [(7, .pointer (some ⟨bx9, 0, none⟩)), (8, .pointer (some ⟨bx25, 0, none⟩)), (9, .pointer (some ⟨bx47, 0, none⟩)), (10, .slice A3675 (l3677).length c3676), (92, .int .i64 (IntKind.wrap .i64 (1 + (bits .and .i64 p2 3)))), (93, .int .i64 x7533), (95, .slice A8507 (t8502.1).length c8508), (96, .int .i64 ((t8502.1).length : Int)), (97, .int .i64 x8621)] ∧ St [] w (fun _ => 0) w_ o8578 ∧ Ft (Bx bx9 56 [.pointer (some ⟨bx8579, 0, none⟩), .int .i64 x8587, .int .i64 x8588, .int .i64 x8589, .int .i64 x8590, .bool x8591, .bool x8592, .bool x8593, .int .i64 x8594, .int .i64 x8595, .int .i64 x8596, .int .i64 x8597, .bool x8598, .bool x8599, .bool x8600, .bool x8601, .int .i64 x8602, .int .i64 x8603, .bool x8604, .string x8605]) w_ o8578 1713 ∧ Ft (Bx bx25 61 [.slice A8606 (l8608).length c8607, .slice A8611 (l8613).length c8612, .slice A8616 (l8618).length c8617]) w_ o8578 1717 ∧ Ft (Own encStr 9 (.slice A3675 (l3677).length c3676) l3677) w_ o8578 1720 ∧ NOwn dT37 38 A8507 c8508 t8502.1 w_ o8578 1721 1 ∧ Ft (Bx bx47 34 [.int .i64 t8502.2.state, .bool t8502.2.order_private_, .bool t8502.2.order_wrong, .bool t8502.2.order_any, .bool t8502.2.order_some, .int .i64 t8502.2.order_n, .slice A8512 (t8502.2.order_nums).length c8513, .string t8502.2.text, .int .u8 t8502.2.runes_Lead, .int .i32 t8502.2.runes_Rune, .int .i64 t8502.2.runes_Need, .slice none 0 0]) w_ o8578 1719 ∧ Ft (Own (encInt .i64) 3 (.slice A8512 (t8502.2.order_nums).length c8513) t8502.2.order_nums) w_ o8578 1718 ∧ Ft (Bx bx8579 75 [.int .i64 x8581, .slice A8582 (l8584).length c8583]) w_ o8578 1712 ∧ NOwn dT65 66 A8582 c8583 l8584 w_ o8578 1711 1 ∧ NOwn (dRows ET46) 43 A8606 c8607 l8608 w_ o8578 1714 1 ∧ Ft (Own (encInt .i64) 3 (.slice A8611 (l8613).length c8612) l8613) w_ o8578 1715 ∧ Ft (Own ET46 47 (.slice A8616 (l8618).length c8617) l8618) w_ o8578 1716 ∧ Ft (RdC ET109 (some ⟨0, 0, none⟩) glob0) w_ o8578 0 ∧ Ft (RdC ET109 (some ⟨1, 0, none⟩) glob1) w_ o8578 0 ∧ Ft (RdC (encInt .u32) (some ⟨2, 0, none⟩) glob2) w_ o8578 0 ∧ Ft (RdC ET141 (some ⟨3, 0, none⟩) glob3) w_ o8578 0 ∧ (l8584).length ≤ c8583 ∧ (l8608).length ≤ c8607 ∧ (l8613).length ≤ c8612 ∧ (l8618).length ≤ c8617 ∧ tidewracktop_TidewrackLines_l11 K x7533 lp8136 t8502 j_ x8581 l8584 x8587 x8588 x8589 x8590 x8591 x8592 x8593 x8594 x8595 x8596 x8597 x8598 x8599 x8600 x8601 x8602 x8603 x8604 x8605 l8608 l8613 l8618 x8621 = some r) (k := K) ⟨(fun b_ => R_118 (o8505 b_)), bx7476, x7478, A7479, c7480, l7481, x7484, x7485, x7486, x7487, x7488, x7489, x7490, x7491, x7492, x7493, x7494, x7495, x7496, x7497, x7498, x7499, x7500, x7501, x7502, A7503, c7504, l7505, A7508, c7509, l7510, A7513, c7514, l7515, 0, (by exact Kn.pick (ks := [7, 8, 9, 10, 92, 93, 95, 96, 97]) hk rfl), (hs.relab0 R_118 rfl), (f10.relab R_118 rfl), (f26.relab R_118 rfl), (f3678.relab R_118 rfl), (f8509.relab R_118 rfl), (f8511.relab R_118 rfl), (f8514.relab R_118 rfl), (f7477.relab R_118 rfl), (f7482.relab R_118 rfl), (f7506.relab R_118 rfl), (f7511.relab R_118 rfl), (f7516.relab R_118 rfl), (fg0.relab R_118 rfl), (fg1.relab R_118 rfl), (fg2.relab R_118 rfl), (fg3.relab R_118 rfl), hc7483, hc7507, hc7512, hc7517, H⟩ (fun _ _ z => z.elim fun _ z => z.elim fun _ z => z.elim fun _ z => z.elim fun _ z => z.elim fun _ z => z.elim fun _ z => z.elim fun _ z => z.elim fun _ z => z.elim fun _ z => z.elim fun _ z => z.elim fun _ z => z.elim fun _ z => z.elim fun _ z => z.elim fun _ z => z.elim fun _ z => z.elim fun _ z => z.elim fun _ z => z.elim fun _ z => z.elim fun _ z => z.elim fun _ z => z.elim fun _ z => z.elim fun _ z => z.elim fun _ z => z.elim fun _ z => z.elim fun _ z => z.elim fun _ z => z.elim fun _ z => z.elim fun _ z => z.elim fun _ z => z.elim fun _ z => z.elim fun _ z => z.elim fun _ z => z.elim fun _ z => z.elim fun _ z => z.elim fun _ z => z.elim fun _ z => z.elim fun _ z => z.elim fun _ z => z.elim fun _ z => z.elim fun _ z => z.elim fun _ z => z.elim fun _ z => z.elim fun _ z => z.elim fun _ z => z.elim fun _ z => z.elim fun _ z => z.elim fun _ z => z.elim fun _ z => z.elim fun _ z => z.elim fun _ z => z.elim fun _ z => z.elim fun _ z => z.elim fun _ z => z.elim fun _ z => z.elim fun _ z => z.elim fun _ z => absurd (show (none : Option Bool) = some r from z) (by simp)) ?_
        refine fun k8679 a w8678 z0 => z0.elim fun o8578 z1 => z1.elim fun bx8579 z2 => z2.elim fun x8581 z3 => z3.elim fun A8582 z4 => z4.elim fun c8583 z5 => z5.elim fun l8584 z6 => z6.elim fun x8587 z7 => z7.elim fun x8588 z8 => z8.elim fun x8589 z9 => z9.elim fun x8590 z10 => z10.elim fun x8591 z11 => z11.elim fun x8592 z12 => z12.elim fun x8593 z13 => z13.elim fun x8594 z14 => z14.elim fun x8595 z15 => z15.elim fun x8596 z16 => z16.elim fun x8597 z17 => z17.elim fun x8598 z18 => z18.elim fun x8599 z19 => z19.elim fun x8600 z20 => z20.elim fun x8601 z21 => z21.elim fun x8602 z22 => z22.elim fun x8603 z23 => z23.elim fun x8604 z24 => z24.elim fun x8605 z25 => z25.elim fun A8606 z26 => z26.elim fun c8607 z27 => z27.elim fun l8608 z28 => z28.elim fun A8611 z29 => z29.elim fun c8612 z30 => z30.elim fun l8613 z31 => z31.elim fun A8616 z32 => z32.elim fun c8617 z33 => z33.elim fun l8618 z34 => z34.elim fun x8621 z35 => z35.elim fun hk z36 => z36.elim fun hs z37 => z37.elim fun f10 z38 => z38.elim fun f26 z39 => z39.elim fun f3678 z40 => z40.elim fun f8509 z41 => z41.elim fun f8511 z42 => z42.elim fun f8514 z43 => z43.elim fun f8580 z44 => z44.elim fun f8585 z45 => z45.elim fun f8609 z46 => z46.elim fun f8614 z47 => z47.elim fun f8619 z48 => z48.elim fun fg0 z49 => z49.elim fun fg1 z50 => z50.elim fun fg2 z51 => z51.elim fun fg3 z52 => z52.elim fun hc8586 z53 => z53.elim fun hc8610 z54 => z54.elim fun hc8615 z55 => z55.elim fun hc8620 H => ?_
        clear z0 z1 z2 z3 z4 z5 z6 z7 z8 z9 z10 z11 z12 z13 z14 z15 z16 z17 z18 z19 z20 z21 z22 z23 z24 z25 z26 z27 z28 z29 z30 z31 z32 z33 z34 z35 z36 z37 z38 z39 z40 z41 z42 z43 z44 z45 z46 z47 z48 z49 z50 z51 z52 z53 z54 z55
        rw [tidewracktop_TidewrackLines_l11] at H
        obtain ⟨lp8680, hlp8681⟩ : ∃ lp_, lp_ = tidewracktop_TidewrackLines_l11 K x7533 lp8136 t8502 k8679 := ⟨_, rfl⟩
        rw [← hlp8681] at H
        refine x_seq ?_
        refine wpIn_region_lit ?_
        refine x_run tab hk (k := 1) (lv := []) (ks := [7, 8, 9, 10, 92, 93, 95, 96, 97, 98]) (e' := [(7, .pointer (some ⟨bx9, 0, none⟩)), (8, .pointer (some ⟨bx25, 0, none⟩)), (9, .pointer (some ⟨bx47, 0, none⟩)), (10, .slice A3675 (l3677).length c3676), (92, .int .i64 (IntKind.wrap .i64 (1 + (bits .and .i64 p2 3)))), (93, .int .i64 x7533), (95, .slice A8507 (t8502.1).length c8508), (96, .int .i64 ((t8502.1).length : Int)), (97, .int .i64 x8621), (98, .bool (decide (x8621 < ((t8502.1).length : Int))))]) rfl trivial fun a hk => ?_
        refine wpListIn_nil ?_
        refine then_n ?_
        refine x_seq ?_
        cases b8682 : (decide (x8621 < ((t8502.1).length : Int)))
        · rw [b8682] at hk H
          replace H := bifF H
          refine x_if hk (b := false) rfl ?_
          refine (show Code.wpIn _ _ _ _ _ _ _ from ?_)
          refine wpIn_exit ?_
          refine then_x ?_
          refine then_x ?_
          refine blk_x ?_
          refine blk_n ?_
          refine then_n ?_
          exact ⟨(fun b_ => R_119 (o8578 b_)), bx8579, x8581, A8582, c8583, l8584, x8587, x8588, x8589, x8590, x8591, x8592, x8593, x8594, x8595, x8596, x8597, x8598, x8599, x8600, x8601, x8602, x8603, x8604, x8605, A8606, c8607, l8608, A8611, c8612, l8613, A8616, c8617, l8618, t8502.2.state, t8502.2.order_private_, t8502.2.order_wrong, t8502.2.order_any, t8502.2.order_some, t8502.2.order_n, A8512, c8513, t8502.2.order_nums, t8502.2.text, t8502.2.runes_Lead, t8502.2.runes_Rune, t8502.2.runes_Need, (by exact Kn.pick (ks := [7, 8, 9, 10, 92, 93]) hk rfl), (hs.relab0 R_119 rfl), (f10.relab R_119 rfl), (f26.relab R_119 rfl), (f3678.relab R_119 rfl), (f8511.relab R_119 rfl), (f8580.relab R_119 rfl), (f8585.relab R_119 rfl), (f8609.relab R_119 rfl), (f8614.relab R_119 rfl), (f8619.relab R_119 rfl), (f8514.relab R_119 rfl), (fg0.relab R_119 rfl), (fg1.relab R_119 rfl), (fg2.relab R_119 rfl), (fg3.relab R_119 rfl), hc8586, hc8610, hc8615, hc8620, hc8515, H⟩
        · rw [b8682] at hk H
          replace H := bifT H
          refine x_if hk (b := true) rfl ?_
          refine (show Code.wpIn _ _ _ _ _ _ _ from ?_)
          refine wpIn_skip ?_
          refine then_n ?_
          refine x_seq ?_
          refine wpIn_block ?_
          refine x_seq ?_
          refine wpIn_region_lit ?_
          obtain ⟨q8683, H⟩ := ifS H
          obtain ⟨ad8684, hAad8684⟩ := NRd.addr f8509.rd q8683
          have hk_C := hk
          have f10_C := f10
          have f26_C := f26
          have f3678_C := f3678
          have f8509_C := f8509
          have f8511_C := f8511
          have f8514_C := f8514
          have f8580_C := f8580
          have f8585_C := f8585
          have f8609_C := f8609
          have f8614_C := f8614
          have f8619_C := f8619
          have fg0_C := fg0
          have fg1_C := fg1
          have fg2_C := fg2
          have fg3_C := fg3
          subst hAad8684
          have hk := hk_C
          clear hk_C
          have f10 := f10_C
          clear f10_C
          have f26 := f26_C
          clear f26_C
          have f3678 := f3678_C
          clear f3678_C
          have f8509 := f8509_C
          clear f8509_C
          have f8511 := f8511_C
          clear f8511_C
          have f8514 := f8514_C
          clear f8514_C
          have f8580 := f8580_C
          clear f8580_C
          have f8585 := f8585_C
          clear f8585_C
          have f8609 := f8609_C
          clear f8609_C
          have f8614 := f8614_C
          clear f8614_C
          have f8619 := f8619_C
          clear f8619_C
          have fg0 := fg0_C
          clear fg0_C
          have fg1 := fg1_C
          clear fg1_C
          have fg2 := fg2_C
          clear fg2_C
          have fg3 := fg3_C
          clear fg3_C
          obtain ⟨A8685, c8686, f8687, f8688, hc8689⟩ := elT37 f8509.rd (i := x8621) q8683
          refine x_run tab hk (k := 2) (lv := [.agg #[.int .i64 ((rdD zT37 t8502.1 x8621).Kind), .int .i32 ((rdD zT37 t8502.1 x8621).Rune), .int .u8 ((rdD zT37 t8502.1 x8621).Byte), .bool ((rdD zT37 t8502.1 x8621).Private), .slice A8685 ((rdD zT37 t8502.1 x8621).Nums).length c8686, .string ((rdD zT37 t8502.1 x8621).Text)]]) (ks := [7, 8, 9, 10, 92, 93, 95, 96, 97, 100]) (e' := [(7, .pointer (some ⟨bx9, 0, none⟩)), (8, .pointer (some ⟨bx25, 0, none⟩)), (9, .pointer (some ⟨bx47, 0, none⟩)), (10, .slice A3675 (l3677).length c3676), (92, .int .i64 (IntKind.wrap .i64 (1 + (bits .and .i64 p2 3)))), (93, .int .i64 x7533), (95, .slice (some ad8684) (t8502.1).length c8508), (96, .int .i64 ((t8502.1).length : Int)), (97, .int .i64 x8621), (100, .agg #[.int .i64 ((rdD zT37 t8502.1 x8621).Kind), .int .i32 ((rdD zT37 t8502.1 x8621).Rune), .int .u8 ((rdD zT37 t8502.1 x8621).Byte), .bool ((rdD zT37 t8502.1 x8621).Private), .slice A8685 ((rdD zT37 t8502.1 x8621).Nums).length c8686, .string ((rdD zT37 t8502.1 x8621).Text)])]) rfl ⟨q8683, (CellsAt.all f8687.now tab rfl rfl rfl), trivial⟩ fun a hk => ?_
          refine x_op hk rfl ?_
          refine op_alloc (o := o8578) tab (t := 38) (cs := [.int .i64 0, .int .i32 0, .int .u8 0, .bool false, .slice none 0 0, .string (⟨#[]⟩ : ByteArray)]) rfl rfl 1724 fun bx8693 w8690 o8691 st8692 f8694 => ?_
          replace f10 := f10.st st8692 (by decide)
          replace f26 := f26.st st8692 (by decide)
          replace f3678 := f3678.st st8692 (by decide)
          replace f8509 := f8509.st st8692 (by decide)
          replace f8511 := f8511.st st8692 (by decide)
          replace f8514 := f8514.st st8692 (by decide)
          replace f8580 := f8580.st st8692 (by decide)
          replace f8585 := f8585.st st8692 (by decide)
          replace f8609 := f8609.st st8692 (by decide)
          replace f8614 := f8614.st st8692 (by decide)
          replace f8619 := f8619.st st8692 (by decide)
          replace f8688 := f8688.st st8692 (by decide)
          replace fg0 := fg0.st st8692 (by decide)
          replace fg1 := fg1.st st8692 (by decide)
          replace fg2 := fg2.st st8692 (by decide)
          replace fg3 := fg3.st st8692 (by decide)
          replace hs := hs.loc0 st8692 (by decide)
          have hk := hk.put 17 (.pointer (some ⟨bx8693, 0, none⟩)) rfl
          refine x_op hk rfl ?_
          refine op_store tab hk (t := 38) (v := .agg #[.int .i64 ((rdD zT37 t8502.1 x8621).Kind), .int .i32 ((rdD zT37 t8502.1 x8621).Rune), .int .u8 ((rdD zT37 t8502.1 x8621).Byte), .bool ((rdD zT37 t8502.1 x8621).Private), .slice A8685 ((rdD zT37 t8502.1 x8621).Nums).length c8686, .string ((rdD zT37 t8502.1 x8621).Text)]) (b := bx8693) (k := 0) (cs' := [.int .i64 ((rdD zT37 t8502.1 x8621).Kind), .int .i32 ((rdD zT37 t8502.1 x8621).Rune), .int .u8 ((rdD zT37 t8502.1 x8621).Byte), .bool ((rdD zT37 t8502.1 x8621).Private), .slice A8685 ((rdD zT37 t8502.1 x8621).Nums).length c8686, .string ((rdD zT37 t8502.1 x8621).Text)]) rfl rfl rfl rfl rfl rfl f8694 rfl rfl fun w8695 o8696 st8697 f8694_ => ?_
          replace f10 := f10.st st8697 (by decide)
          replace f26 := f26.st st8697 (by decide)
          replace f3678 := f3678.st st8697 (by decide)
          replace f8509 := f8509.st st8697 (by decide)
          replace f8511 := f8511.st st8697 (by decide)
          replace f8514 := f8514.st st8697 (by decide)
          replace f8580 := f8580.st st8697 (by decide)
          replace f8585 := f8585.st st8697 (by decide)
          replace f8609 := f8609.st st8697 (by decide)
          replace f8614 := f8614.st st8697 (by decide)
          replace f8619 := f8619.st st8697 (by decide)
          replace f8688 := f8688.st st8697 (by decide)
          replace fg0 := fg0.st st8697 (by decide)
          replace fg1 := fg1.st st8697 (by decide)
          replace fg2 := fg2.st st8697 (by decide)
          replace fg3 := fg3.st st8697 (by decide)
          replace hs := hs.loc0 st8697 (by decide)
          replace f8694 := f8694_
          refine wpListIn_nil ?_
          refine then_n ?_
          refine wpIn_region_lit ?_
          refine x_run tab hk (k := 3) (lv := [.agg #[.int .i64 ((rdD zT37 t8502.1 x8621).Kind), .int .i32 ((rdD zT37 t8502.1 x8621).Rune), .int .u8 ((rdD zT37 t8502.1 x8621).Byte), .bool ((rdD zT37 t8502.1 x8621).Private), .slice A8685 ((rdD zT37 t8502.1 x8621).Nums).length c8686, .string ((rdD zT37 t8502.1 x8621).Text)]]) (ks := [7, 8, 9, 10, 92, 93, 95, 96, 97, 101, 102, 103]) (e' := [(7, .pointer (some ⟨bx9, 0, none⟩)), (8, .pointer (some ⟨bx25, 0, none⟩)), (9, .pointer (some ⟨bx47, 0, none⟩)), (10, .slice A3675 (l3677).length c3676), (92, .int .i64 (IntKind.wrap .i64 (1 + (bits .and .i64 p2 3)))), (93, .int .i64 x7533), (95, .slice (some ad8684) (t8502.1).length c8508), (96, .int .i64 ((t8502.1).length : Int)), (97, .int .i64 x8621), (101, .pointer (some ⟨bx25, 0, none⟩)), (102, .pointer (some ⟨bx9, 0, none⟩)), (103, .agg #[.int .i64 ((rdD zT37 t8502.1 x8621).Kind), .int .i32 ((rdD zT37 t8502.1 x8621).Rune), .int .u8 ((rdD zT37 t8502.1 x8621).Byte), .bool ((rdD zT37 t8502.1 x8621).Private), .slice A8685 ((rdD zT37 t8502.1 x8621).Nums).length c8686, .string ((rdD zT37 t8502.1 x8621).Text)])]) rfl ⟨(load_box tab rfl rfl f8694.now (k := 0) rfl rfl), trivial⟩ fun a hk => ?_
          refine x_op hk rfl ?_
          obtain ⟨t8701, hc8702, H⟩ := bindS H
          refine op_call hk ent_8 (vs := [.pointer (some ⟨bx9, 0, none⟩), .agg #[.int .i64 ((rdD zT37 t8502.1 x8621).Kind), .int .i32 ((rdD zT37 t8502.1 x8621).Rune), .int .u8 ((rdD zT37 t8502.1 x8621).Byte), .bool ((rdD zT37 t8502.1 x8621).Private), .slice A8685 ((rdD zT37 t8502.1 x8621).Nums).length c8686, .string ((rdD zT37 t8502.1 x8621).Text)]]) rfl (screen_Screen_Do_calls K bx9 bx8579 A8582 c8583 (⟨x8581, l8584, x8587, x8588, x8589, x8590, x8591, x8592, x8593, x8594, x8595, x8596, x8597, x8598, x8599, x8600, x8601, x8602, x8603, x8604, x8605⟩ : T55) A8685 c8686 (rdD zT37 t8502.1 x8621) _ o8696 1 0 fg0 0 fg1 1713 f10 1711 f8585 hc8586 1712 f8580 f8688 hc8689 (by decide) (by decide) (by decide) 1725  _ hc8702) ?_
          rintro _ w8703 ⟨o8704, A8706, c8707, bx8711, A8713, c8714, rfl, st8705, f8708, hc8709, f8710, f8712, f8715, hc8716⟩
          replace f26 := f26.st st8705 (by decide)
          replace f3678 := f3678.st st8705 (by decide)
          replace f8509 := f8509.st st8705 (by decide)
          replace f8511 := f8511.st st8705 (by decide)
          replace f8514 := f8514.st st8705 (by decide)
          replace f8609 := f8609.st st8705 (by decide)
          replace f8614 := f8614.st st8705 (by decide)
          replace f8619 := f8619.st st8705 (by decide)
          replace f8688 := f8688.st st8705 (by decide)
          replace fg0 := fg0.st st8705 (by decide)
          replace fg1 := fg1.st st8705 (by decide)
          replace fg2 := fg2.st st8705 (by decide)
          replace fg3 := fg3.st st8705 (by decide)
          replace hs := hs.loc0 st8705 (by decide)
          have hk := hk.put 104 (.slice A8706 (t8701.1).length c8707) rfl
          refine x_op hk rfl ?_
          obtain ⟨t8720, hc8721, H⟩ := bindS H
          refine op_call hk ent_7 (vs := [.pointer (some ⟨bx25, 0, none⟩), .slice A8706 (t8701.1).length c8707]) rfl (book_Book_Add_calls K bx25 A8606 c8607 A8611 c8612 A8616 c8617 (⟨l8608, l8613, l8618⟩ : T60) A8706 c8707 t8701.1 _ o8704 1 0 fg2 1717 f26 1714 f8609 hc8610 1715 f8614 hc8615 1716 f8619 hc8620 _ f8708.rd hc8709 (by decide) (by decide) (by decide)   _ hc8721) ?_
          rintro _ w8722 ⟨o8723, A8726, c8727, A8730, c8731, A8734, c8735, rfl, st8724, f8725, f8728, hc8729, f8732, hc8733, f8736, hc8737⟩
          replace f3678 := f3678.st st8724 (by decide)
          replace f8509 := f8509.st st8724 (by decide)
          replace f8511 := f8511.st st8724 (by decide)
          replace f8514 := f8514.st st8724 (by decide)
          replace f8688 := f8688.st st8724 (by decide)
          replace f8708 := f8708.st st8724 (by decide)
          replace f8710 := f8710.st st8724 (by decide)
          replace f8712 := f8712.st st8724 (by decide)
          replace f8715 := f8715.st st8724 (by decide)
          replace fg0 := fg0.st st8724 (by decide)
          replace fg1 := fg1.st st8724 (by decide)
          replace fg2 := fg2.st st8724 (by decide)
          replace fg3 := fg3.st st8724 (by decide)
          replace hs := hs.loc0 st8724 (by decide)
          have hk := hk.put 105 (.int .i64 t8720.1) rfl
          refine wpListIn_nil ?_
          refine blk_n ?_
          refine then_n ?_
          refine wpIn_region_lit ?_
          refine x_run tab hk (k := 2) (lv := []) (ks := [7, 8, 9, 10, 92, 93, 95, 96, 97]) (e' := [(7, .pointer (some ⟨bx9, 0, none⟩)), (8, .pointer (some ⟨bx25, 0, none⟩)), (9, .pointer (some ⟨bx47, 0, none⟩)), (10, .slice A3675 (l3677).length c3676), (92, .int .i64 (IntKind.wrap .i64 (1 + (bits .and .i64 p2 3)))), (93, .int .i64 x7533), (95, .slice (some ad8684) (t8502.1).length c8508), (96, .int .i64 ((t8502.1).length : Int)), (97, .int .i64 (IntKind.wrap .i64 (x8621 + 1)))]) rfl trivial fun a hk => ?_
          refine wpListIn_nil ?_
          refine then_n ?_
          exact ⟨k8679, Nat.le_refl _, o8723, bx8711, t8701.2.g_w, A8713, c8714, t8701.2.g_l, t8701.2.spot_x, t8701.2.spot_y, t8701.2.spot_style_Fore, t8701.2.spot_style_Back, t8701.2.spot_style_Bold, t8701.2.spot_style_Under, t8701.2.spot_style_Inverse, t8701.2.saved_x, t8701.2.saved_y, t8701.2.saved_style_Fore, t8701.2.saved_style_Back, t8701.2.saved_style_Bold, t8701.2.saved_style_Under, t8701.2.saved_style_Inverse, t8701.2.waiting, t8701.2.top, t8701.2.bottom, t8701.2.wraps, t8701.2.title, A8726, c8727, t8720.2.l, A8730, c8731, t8720.2.chains, A8734, c8735, t8720.2.begun, (IntKind.wrap .i64 (x8621 + 1)), (by exact Kn.pick (ks := [7, 8, 9, 10, 92, 93, 95, 96, 97]) hk rfl), hs, f8710, f8725, f3678, f8509, f8511, f8514, f8712, f8715, f8728, f8732, f8736, fg0, fg1, fg2, fg3, hc8716, hc8729, hc8733, hc8737, (hlp8681 ▸ H)⟩
    refine x_seq ?_
    refine wpIn_region_lit ?_
    refine x_run tab hk (k := 1) (lv := []) (ks := [0, 2, 7, 8, 9, 10, 11]) (e' := [(0, .slice Ap0 (p0).length cp0), (2, .int .i64 (IntKind.wrap .i64 (1 + (bits .and .i64 p2 3)))), (7, .pointer (some ⟨bx9, 0, none⟩)), (8, .pointer (some ⟨bx25, 0, none⟩)), (9, .pointer (some ⟨bx47, 0, none⟩)), (10, .slice none 0 0), (11, .int .i64 0)]) rfl trivial fun a hk => ?_
    refine wpListIn_nil ?_
    refine then_n ?_
    refine wpIn_block ?_
    refine x_loop (fun j_ a_ w_ => ∃ o9883 : Nat → Nat, ∃ A9884 : Option Addr, ∃ c9885 : Nat, ∃ bx9888 : Nat, ∃ x9890 : Int, ∃ A9891 : Option Addr, ∃ c9892 : Nat, ∃ l9893 : List T65, ∃ x9896 : Int, ∃ x9897 : Int, ∃ x9898 : Int, ∃ x9899 : Int, ∃ x9900 : Bool, ∃ x9901 : Bool, ∃ x9902 : Bool, ∃ x9903 : Int, ∃ x9904 : Int, ∃ x9905 : Int, ∃ x9906 : Int, ∃ x9907 : Bool, ∃ x9908 : Bool, ∃ x9909 : Bool, ∃ x9910 : Bool, ∃ x9911 : Int, ∃ x9912 : Int, ∃ x9913 : Bool, ∃ x9914 : ByteArray, ∃ A9915 : Option Addr, ∃ c9916 : Nat, ∃ l9917 : List (List T46), ∃ A9920 : Option Addr, ∃ c9921 : Nat, ∃ l9922 : List Int, ∃ A9925 : Option Addr, ∃ c9926 : Nat, ∃ l9927 : List T46, ∃ x9930 : Int, ∃ x9931 : Bool, ∃ x9932 : Bool, ∃ x9933 : Bool, ∃ x9934 : Bool, ∃ x9935 : Int, ∃ A9936 : Option Addr, ∃ c9937 : Nat, ∃ l9938 : List Int, ∃ x9941 : ByteArray, ∃ x9942 : Int, ∃ x9943 : Int, ∃ x9944 : Int, ∃ A9945 : Option Addr, ∃ c9946 : Nat, ∃ l9947 : List ByteArray, ∃ x9950 : Int, Kn 151 a_ [(0, .slice A9884 (p0).length c9885), (2, .int .i64 (IntKind.wrap .i64 (1 + (bits .and .i64 p2 3)))), (7, .pointer (some ⟨bx9, 0, none⟩)), (8, .pointer (some ⟨bx25, 0, none⟩)), (9, .pointer (some ⟨bx47, 0, none⟩)), (10, .slice A9945 (l9947).length c9946), (11, .int .i64 x9950)] ∧ St [] w (fun _ => 0) w_ o9883 ∧ Ft (Bx bx9 56 [.pointer (some ⟨bx9888, 0, none⟩), .int .i64 x9896, .int .i64 x9897, .int .i64 x9898, .int .i64 x9899, .bool x9900, .bool x9901, .bool x9902, .int .i64 x9903, .int .i64 x9904, .int .i64 x9905, .int .i64 x9906, .bool x9907, .bool x9908, .bool x9909, .bool x9910, .int .i64 x9911, .int .i64 x9912, .bool x9913, .string x9914]) w_ o9883 2008 ∧ Ft (Bx bx25 61 [.slice A9915 (l9917).length c9916, .slice A9920 (l9922).length c9921, .slice A9925 (l9927).length c9926]) w_ o9883 2012 ∧ Ft (Bx bx47 34 [.int .i64 x9930, .bool x9931, .bool x9932, .bool x9933, .bool x9934, .int .i64 x9935, .slice A9936 (l9938).length c9937, .string x9941, .int .u8 x9942, .int .i32 x9943, .int .i64 x9944, .slice none 0 0]) w_ o9883 2014 ∧ Ft (RdC encStr A9884 p0) w_ o9883 0 ∧ Ft (Bx bx9888 75 [.int .i64 x9890, .slice A9891 (l9893).length c9892]) w_ o9883 2007 ∧ NOwn dT65 66 A9891 c9892 l9893 w_ o9883 2006 1 ∧ NOwn (dRows ET46) 43 A9915 c9916 l9917 w_ o9883 2009 1 ∧ Ft (Own (encInt .i64) 3 (.slice A9920 (l9922).length c9921) l9922) w_ o9883 2010 ∧ Ft (Own ET46 47 (.slice A9925 (l9927).length c9926) l9927) w_ o9883 2011 ∧ Ft (Own (encInt .i64) 3 (.slice A9936 (l9938).length c9937) l9938) w_ o9883 2013 ∧ Ft (Own encStr 9 (.slice A9945 (l9947).length c9946) l9947) w_ o9883 2015 ∧ Ft (RdC ET109 (some ⟨0, 0, none⟩) glob0) w_ o9883 0 ∧ Ft (RdC ET109 (some ⟨1, 0, none⟩) glob1) w_ o9883 0 ∧ Ft (RdC (encInt .u32) (some ⟨2, 0, none⟩) glob2) w_ o9883 0 ∧ Ft (RdC ET141 (some ⟨3, 0, none⟩) glob3) w_ o9883 0 ∧ (p0).length ≤ c9885 ∧ (l9893).length ≤ c9892 ∧ (l9917).length ≤ c9916 ∧ (l9922).length ≤ c9921 ∧ (l9927).length ≤ c9926 ∧ (l9938).length ≤ c9937 ∧ (l9947).length ≤ c9946 ∧ tidewracktop_TidewrackLines_l12 K p0 p2 j_ x9890 l9893 x9896 x9897 x9898 x9899 x9900 x9901 x9902 x9903 x9904 x9905 x9906 x9907 x9908 x9909 x9910 x9911 x9912 x9913 x9914 l9917 l9922 l9927 x9930 x9931 x9932 x9933 x9934 x9935 l9938 x9941 x9942 x9943 x9944 l9947 x9950 = some r) (k := K) ⟨(fun b_ => R_120 (o45 b_)), Ap0, cp0, bx11, t4.g_w, A13, c14, t4.g_l, t4.spot_x, t4.spot_y, t4.spot_style_Fore, t4.spot_style_Back, t4.spot_style_Bold, t4.spot_style_Under, t4.spot_style_Inverse, t4.saved_x, t4.saved_y, t4.saved_style_Fore, t4.saved_style_Back, t4.saved_style_Bold, t4.saved_style_Under, t4.saved_style_Inverse, t4.waiting, t4.top, t4.bottom, t4.wraps, t4.title, A27, c28, t20.l, A31, c32, t20.chains, A35, c36, t20.begun, 0, false, false, false, false, 0, none, 0, ([] : List Int), (⟨#[]⟩ : ByteArray), 0, 0, 0, none, 0, ([] : List ByteArray), 0, (by exact Kn.pick (ks := [0, 2, 7, 8, 9, 10, 11]) hk rfl), (hs.relab0 R_120 rfl), (f10.relab R_120 rfl), (f26.relab R_120 rfl), (f48.relab R_120 rfl), (f900000.relab R_120 rfl), (f12.relab R_120 rfl), (f15.relab R_120 rfl), (f29.relab R_120 rfl), (f33.relab R_120 rfl), (f37.relab R_120 rfl), (Ft.of_all (fun _ => Own.nil _ _ _) _ _ _), (Ft.of_all (fun _ => Own.nil _ _ _) _ _ _), (fg0.relab R_120 rfl), (fg1.relab R_120 rfl), (fg2.relab R_120 rfl), (fg3.relab R_120 rfl), hcp0, hc16, hc30, hc34, hc38, (by simp), (by simp), H⟩ (fun _ _ z => z.elim fun _ z => z.elim fun _ z => z.elim fun _ z => z.elim fun _ z => z.elim fun _ z => z.elim fun _ z => z.elim fun _ z => z.elim fun _ z => z.elim fun _ z => z.elim fun _ z => z.elim fun _ z => z.elim fun _ z => z.elim fun _ z => z.elim fun _ z => z.elim fun _ z => z.elim fun _ z => z.elim fun _ z => z.elim fun _ z => z.elim fun _ z => z.elim fun _ z => z.elim fun _ z => z.elim fun _ z => z.elim fun _ z => z.elim fun _ z => z.elim fun _ z => z.elim fun _ z => z.elim fun _ z => z.elim fun _ z => z.elim fun _ z => z.elim fun _ z => z.elim fun _ z => z.elim fun _ z => z.elim fun _ z => z.elim fun _ z => z.elim fun _ z => z.elim fun _ z => z.elim fun _ z => z.elim fun _ z => z.elim fun _ z => z.elim fun _ z => z.elim fun _ z => z.elim fun _ z => z.elim fun _ z => z.elim fun _ z => z.elim fun _ z => z.elim fun _ z => z.elim fun _ z => z.elim fun _ z => z.elim fun _ z => z.elim fun _ z => z.elim fun _ z => z.elim fun _ z => z.elim fun _ z => z.elim fun _ z => z.elim fun _ z => z.elim fun _ z => z.elim fun _ z => z.elim fun _ z => z.elim fun _ z => z.elim fun _ z => z.elim fun _ z => z.elim fun _ z => z.elim fun _ z => z.elim fun _ z => z.elim fun _ z => z.elim fun _ z => z.elim fun _ z => z.elim fun _ z => z.elim fun _ z => z.elim fun _ z => z.elim fun _ z => z.elim fun _ z => z.elim fun _ z => z.elim fun _ z => z.elim fun _ z => z.elim fun _ z => z.elim fun _ z => absurd (show (none : Option Bool) = some r from z) (by simp)) ?_
    refine fun k11094 a w11093 z0 => z0.elim fun o9883 z1 => z1.elim fun A9884 z2 => z2.elim fun c9885 z3 => z3.elim fun bx9888 z4 => z4.elim fun x9890 z5 => z5.elim fun A9891 z6 => z6.elim fun c9892 z7 => z7.elim fun l9893 z8 => z8.elim fun x9896 z9 => z9.elim fun x9897 z10 => z10.elim fun x9898 z11 => z11.elim fun x9899 z12 => z12.elim fun x9900 z13 => z13.elim fun x9901 z14 => z14.elim fun x9902 z15 => z15.elim fun x9903 z16 => z16.elim fun x9904 z17 => z17.elim fun x9905 z18 => z18.elim fun x9906 z19 => z19.elim fun x9907 z20 => z20.elim fun x9908 z21 => z21.elim fun x9909 z22 => z22.elim fun x9910 z23 => z23.elim fun x9911 z24 => z24.elim fun x9912 z25 => z25.elim fun x9913 z26 => z26.elim fun x9914 z27 => z27.elim fun A9915 z28 => z28.elim fun c9916 z29 => z29.elim fun l9917 z30 => z30.elim fun A9920 z31 => z31.elim fun c9921 z32 => z32.elim fun l9922 z33 => z33.elim fun A9925 z34 => z34.elim fun c9926 z35 => z35.elim fun l9927 z36 => z36.elim fun x9930 z37 => z37.elim fun x9931 z38 => z38.elim fun x9932 z39 => z39.elim fun x9933 z40 => z40.elim fun x9934 z41 => z41.elim fun x9935 z42 => z42.elim fun A9936 z43 => z43.elim fun c9937 z44 => z44.elim fun l9938 z45 => z45.elim fun x9941 z46 => z46.elim fun x9942 z47 => z47.elim fun x9943 z48 => z48.elim fun x9944 z49 => z49.elim fun A9945 z50 => z50.elim fun c9946 z51 => z51.elim fun l9947 z52 => z52.elim fun x9950 z53 => z53.elim fun hk z54 => z54.elim fun hs z55 => z55.elim fun f10 z56 => z56.elim fun f26 z57 => z57.elim fun f48 z58 => z58.elim fun f9886 z59 => z59.elim fun f9889 z60 => z60.elim fun f9894 z61 => z61.elim fun f9918 z62 => z62.elim fun f9923 z63 => z63.elim fun f9928 z64 => z64.elim fun f9939 z65 => z65.elim fun f9948 z66 => z66.elim fun fg0 z67 => z67.elim fun fg1 z68 => z68.elim fun fg2 z69 => z69.elim fun fg3 z70 => z70.elim fun hc9887 z71 => z71.elim fun hc9895 z72 => z72.elim fun hc9919 z73 => z73.elim fun hc9924 z74 => z74.elim fun hc9929 z75 => z75.elim fun hc9940 z76 => z76.elim fun hc9949 H => ?_
    clear z0 z1 z2 z3 z4 z5 z6 z7 z8 z9 z10 z11 z12 z13 z14 z15 z16 z17 z18 z19 z20 z21 z22 z23 z24 z25 z26 z27 z28 z29 z30 z31 z32 z33 z34 z35 z36 z37 z38 z39 z40 z41 z42 z43 z44 z45 z46 z47 z48 z49 z50 z51 z52 z53 z54 z55 z56 z57 z58 z59 z60 z61 z62 z63 z64 z65 z66 z67 z68 z69 z70 z71 z72 z73 z74 z75 z76
    rw [tidewracktop_TidewrackLines_l12] at H
    obtain ⟨lp11095, hlp11096⟩ : ∃ lp_, lp_ = tidewracktop_TidewrackLines_l12 K p0 p2 k11094 := ⟨_, rfl⟩
    rw [← hlp11096] at H
    refine x_mid (fun a_ w_ => ∃ o11102 : Nat → Nat, Kn 151 a_ [(0, .slice A9884 (p0).length c9885), (2, .int .i64 (IntKind.wrap .i64 (1 + (bits .and .i64 p2 3)))), (7, .pointer (some ⟨bx9, 0, none⟩)), (8, .pointer (some ⟨bx25, 0, none⟩)), (9, .pointer (some ⟨bx47, 0, none⟩)), (10, .slice A9945 (l9947).length c9946), (11, .int .i64 x9950)] ∧ St [] w (fun _ => 0) w_ o11102 ∧ Ft (Bx bx9 56 [.pointer (some ⟨bx9888, 0, none⟩), .int .i64 x9896, .int .i64 x9897, .int .i64 x9898, .int .i64 x9899, .bool x9900, .bool x9901, .bool x9902, .int .i64 x9903, .int .i64 x9904, .int .i64 x9905, .int .i64 x9906, .bool x9907, .bool x9908, .bool x9909, .bool x9910, .int .i64 x9911, .int .i64 x9912, .bool x9913, .string x9914]) w_ o11102 2332 ∧ Ft (Bx bx25 61 [.slice A9915 (l9917).length c9916, .slice A9920 (l9922).length c9921, .slice A9925 (l9927).length c9926]) w_ o11102 2336 ∧ Ft (Bx bx47 34 [.int .i64 x9930, .bool x9931, .bool x9932, .bool x9933, .bool x9934, .int .i64 x9935, .slice A9936 (l9938).length c9937, .string x9941, .int .u8 x9942, .int .i32 x9943, .int .i64 x9944, .slice none 0 0]) w_ o11102 2338 ∧ Ft (RdC encStr A9884 p0) w_ o11102 0 ∧ Ft (Bx bx9888 75 [.int .i64 x9890, .slice A9891 (l9893).length c9892]) w_ o11102 2331 ∧ NOwn dT65 66 A9891 c9892 l9893 w_ o11102 2330 1 ∧ NOwn (dRows ET46) 43 A9915 c9916 l9917 w_ o11102 2333 1 ∧ Ft (Own (encInt .i64) 3 (.slice A9920 (l9922).length c9921) l9922) w_ o11102 2334 ∧ Ft (Own ET46 47 (.slice A9925 (l9927).length c9926) l9927) w_ o11102 2335 ∧ Ft (Own (encInt .i64) 3 (.slice A9936 (l9938).length c9937) l9938) w_ o11102 2337 ∧ Ft (Own encStr 9 (.slice A9945 (l9947).length c9946) l9947) w_ o11102 2339 ∧ Ft (RdC ET109 (some ⟨0, 0, none⟩) glob0) w_ o11102 0 ∧ Ft (RdC ET109 (some ⟨1, 0, none⟩) glob1) w_ o11102 0 ∧ Ft (RdC (encInt .u32) (some ⟨2, 0, none⟩) glob2) w_ o11102 0 ∧ Ft (RdC ET141 (some ⟨3, 0, none⟩) glob3) w_ o11102 0 ∧ tidewracktop_TidewrackLines_j13 K p0 x9890 l9893 x9896 x9897 x9898 x9899 x9900 x9901 x9902 x9903 x9904 x9905 x9906 x9907 x9908 x9909 x9910 x9911 x9912 x9913 x9914 l9917 l9922 l9927 x9930 x9931 x9932 x9933 x9934 x9935 l9938 x9941 x9942 x9943 x9944 l9947 x9950 lp11095 = some r) ?_ ?_
    rotate_left
    · refine fun a w11103 z0 => z0.elim fun o11102 z1 => z1.elim fun hk z2 => z2.elim fun hs z3 => z3.elim fun f10 z4 => z4.elim fun f26 z5 => z5.elim fun f48 z6 => z6.elim fun f9886 z7 => z7.elim fun f9889 z8 => z8.elim fun f9894 z9 => z9.elim fun f9918 z10 => z10.elim fun f9923 z11 => z11.elim fun f9928 z12 => z12.elim fun f9939 z13 => z13.elim fun f9948 z14 => z14.elim fun fg0 z15 => z15.elim fun fg1 z16 => z16.elim fun fg2 z17 => z17.elim fun fg3 H => ?_
      clear z0 z1 z2 z3 z4 z5 z6 z7 z8 z9 z10 z11 z12 z13 z14 z15 z16 z17
      rw [tidewracktop_TidewrackLines_j13] at H
      refine x_mid (fun a_ w_ => ∃ o11672 : Nat → Nat, ∃ A11673 : Option Addr, ∃ c11674 : Nat, ∃ bx11677 : Nat, ∃ x11679 : Int, ∃ A11680 : Option Addr, ∃ c11681 : Nat, ∃ l11682 : List T65, ∃ x11685 : Int, ∃ x11686 : Int, ∃ x11687 : Int, ∃ x11688 : Int, ∃ x11689 : Bool, ∃ x11690 : Bool, ∃ x11691 : Bool, ∃ x11692 : Int, ∃ x11693 : Int, ∃ x11694 : Int, ∃ x11695 : Int, ∃ x11696 : Bool, ∃ x11697 : Bool, ∃ x11698 : Bool, ∃ x11699 : Bool, ∃ x11700 : Int, ∃ x11701 : Int, ∃ x11702 : Bool, ∃ x11703 : ByteArray, ∃ A11704 : Option Addr, ∃ c11705 : Nat, ∃ l11706 : List (List T46), ∃ A11709 : Option Addr, ∃ c11710 : Nat, ∃ l11711 : List Int, ∃ A11714 : Option Addr, ∃ c11715 : Nat, ∃ l11716 : List T46, ∃ x11719 : Int, ∃ x11720 : Bool, ∃ x11721 : Bool, ∃ x11722 : Bool, ∃ x11723 : Bool, ∃ x11724 : Int, ∃ A11725 : Option Addr, ∃ c11726 : Nat, ∃ l11727 : List Int, ∃ x11730 : ByteArray, ∃ x11731 : Int, ∃ x11732 : Int, ∃ x11733 : Int, ∃ A11734 : Option Addr, ∃ c11735 : Nat, ∃ l11736 : List ByteArray, Kn 151 a_ [(0, .slice A11673 (p0).length c11674), (2, .int .i64 (IntKind.wrap .i64 (1 + (bits .and .i64 p2 3)))), (7, .pointer (some ⟨bx9, 0, none⟩)), (8, .pointer (some ⟨bx25, 0, none⟩)), (9, .pointer (some ⟨bx47, 0, none⟩)), (10, .slice A11734 (l11736).length c11735), (11, .int .i64 x9950)] ∧ St [] w (fun _ => 0) w_ o11672 ∧ Ft (Bx bx9 56 [.pointer (some ⟨bx11677, 0, none⟩), .int .i64 x11685, .int .i64 x11686, .int .i64 x11687, .int .i64 x11688, .bool x11689, .bool x11690, .bool x11691, .int .i64 x11692, .int .i64 x11693, .int .i64 x11694, .int .i64 x11695, .bool x11696, .bool x11697, .bool x11698, .bool x11699, .int .i64 x11700, .int .i64 x11701, .bool x11702, .string x11703]) w_ o11672 2489 ∧ Ft (Bx bx47 34 [.int .i64 x11719, .bool x11720, .bool x11721, .bool x11722, .bool x11723, .int .i64 x11724, .slice A11725 (l11727).length c11726, .string x11730, .int .u8 x11731, .int .i32 x11732, .int .i64 x11733, .slice none 0 0]) w_ o11672 2495 ∧ Ft (RdC encStr A11673 p0) w_ o11672 0 ∧ Ft (Bx bx11677 75 [.int .i64 x11679, .slice A11680 (l11682).length c11681]) w_ o11672 2488 ∧ NOwn dT65 66 A11680 c11681 l11682 w_ o11672 2487 1 ∧ NOwn (dRows ET46) 43 A11704 c11705 l11706 w_ o11672 2490 1 ∧ Ft (Own (encInt .i64) 3 (.slice A11709 (l11711).length c11710) l11711) w_ o11672 2491 ∧ Ft (Own ET46 47 (.slice A11714 (l11716).length c11715) l11716) w_ o11672 2492 ∧ Ft (Own (encInt .i64) 3 (.slice A11725 (l11727).length c11726) l11727) w_ o11672 2494 ∧ Ft (Own encStr 9 (.slice A11734 (l11736).length c11735) l11736) w_ o11672 2496 ∧ Ft (Bx bx25 61 [.slice A11704 (l11706).length c11705, .slice A11709 (l11711).length c11710, .slice A11714 (l11716).length c11715]) w_ o11672 2493 ∧ Ft (RdC ET109 (some ⟨0, 0, none⟩) glob0) w_ o11672 0 ∧ Ft (RdC ET109 (some ⟨1, 0, none⟩) glob1) w_ o11672 0 ∧ Ft (RdC (encInt .u32) (some ⟨2, 0, none⟩) glob2) w_ o11672 0 ∧ Ft (RdC ET141 (some ⟨3, 0, none⟩) glob3) w_ o11672 0 ∧ (p0).length ≤ c11674 ∧ (l11682).length ≤ c11681 ∧ (l11706).length ≤ c11705 ∧ (l11711).length ≤ c11710 ∧ (l11716).length ≤ c11715 ∧ (l11727).length ≤ c11726 ∧ (l11736).length ≤ c11735 ∧ tidewracktop_TidewrackLines_j14 x9950 lp11095 x11679 l11682 x11685 x11686 x11687 x11688 x11689 x11690 x11691 x11692 x11693 x11694 x11695 x11696 x11697 x11698 x11699 x11700 x11701 x11702 x11703 l11706 l11711 l11716 x11719 x11720 x11721 x11722 x11723 x11724 l11727 x11730 x11731 x11732 x11733 l11736 = some r) ?_ ?_
      rotate_left
      · refine fun a w11739 z0 => z0.elim fun o11672 z1 => z1.elim fun A11673 z2 => z2.elim fun c11674 z3 => z3.elim fun bx11677 z4 => z4.elim fun x11679 z5 => z5.elim fun A11680 z6 => z6.elim fun c11681 z7 => z7.elim fun l11682 z8 => z8.elim fun x11685 z9 => z9.elim fun x11686 z10 => z10.elim fun x11687 z11 => z11.elim fun x11688 z12 => z12.elim fun x11689 z13 => z13.elim fun x11690 z14 => z14.elim fun x11691 z15 => z15.elim fun x11692 z16 => z16.elim fun x11693 z17 => z17.elim fun x11694 z18 => z18.elim fun x11695 z19 => z19.elim fun x11696 z20 => z20.elim fun x11697 z21 => z21.elim fun x11698 z22 => z22.elim fun x11699 z23 => z23.elim fun x11700 z24 => z24.elim fun x11701 z25 => z25.elim fun x11702 z26 => z26.elim fun x11703 z27 => z27.elim fun A11704 z28 => z28.elim fun c11705 z29 => z29.elim fun l11706 z30 => z30.elim fun A11709 z31 => z31.elim fun c11710 z32 => z32.elim fun l11711 z33 => z33.elim fun A11714 z34 => z34.elim fun c11715 z35 => z35.elim fun l11716 z36 => z36.elim fun x11719 z37 => z37.elim fun x11720 z38 => z38.elim fun x11721 z39 => z39.elim fun x11722 z40 => z40.elim fun x11723 z41 => z41.elim fun x11724 z42 => z42.elim fun A11725 z43 => z43.elim fun c11726 z44 => z44.elim fun l11727 z45 => z45.elim fun x11730 z46 => z46.elim fun x11731 z47 => z47.elim fun x11732 z48 => z48.elim fun x11733 z49 => z49.elim fun A11734 z50 => z50.elim fun c11735 z51 => z51.elim fun l11736 z52 => z52.elim fun hk z53 => z53.elim fun hs z54 => z54.elim fun f10 z55 => z55.elim fun f11261 z56 => z56.elim fun f11675 z57 => z57.elim fun f11678 z58 => z58.elim fun f11683 z59 => z59.elim fun f11707 z60 => z60.elim fun f11712 z61 => z61.elim fun f11717 z62 => z62.elim fun f11728 z63 => z63.elim fun f11737 z64 => z64.elim fun f26 z65 => z65.elim fun fg0 z66 => z66.elim fun fg1 z67 => z67.elim fun fg2 z68 => z68.elim fun fg3 z69 => z69.elim fun hc11676 z70 => z70.elim fun hc11684 z71 => z71.elim fun hc11708 z72 => z72.elim fun hc11713 z73 => z73.elim fun hc11718 z74 => z74.elim fun hc11729 z75 => z75.elim fun hc11738 H => ?_
        clear z0 z1 z2 z3 z4 z5 z6 z7 z8 z9 z10 z11 z12 z13 z14 z15 z16 z17 z18 z19 z20 z21 z22 z23 z24 z25 z26 z27 z28 z29 z30 z31 z32 z33 z34 z35 z36 z37 z38 z39 z40 z41 z42 z43 z44 z45 z46 z47 z48 z49 z50 z51 z52 z53 z54 z55 z56 z57 z58 z59 z60 z61 z62 z63 z64 z65 z66 z67 z68 z69 z70 z71 z72 z73 z74 z75
        rw [tidewracktop_TidewrackLines_j14] at H
        refine wpIn_region_lit ?_
        refine x_run tab hk (k := 3) (lv := []) (ks := [0, 2, 7, 8, 9, 10, 11]) (e' := [(0, .slice A11673 (p0).length c11674), (2, .int .i64 (IntKind.wrap .i64 (1 + (bits .and .i64 p2 3)))), (7, .pointer (some ⟨bx9, 0, none⟩)), (8, .pointer (some ⟨bx25, 0, none⟩)), (9, .pointer (some ⟨bx47, 0, none⟩)), (10, .slice A11734 (l11736).length c11735), (11, .int .i64 (IntKind.wrap .i64 (x9950 + 1)))]) rfl trivial fun a hk => ?_
        refine wpListIn_nil ?_
        refine then_n ?_
        exact ⟨k11094, Nat.le_refl _, (fun b_ => R_121 (o11672 b_)), A11673, c11674, bx11677, x11679, A11680, c11681, l11682, x11685, x11686, x11687, x11688, x11689, x11690, x11691, x11692, x11693, x11694, x11695, x11696, x11697, x11698, x11699, x11700, x11701, x11702, x11703, A11704, c11705, l11706, A11709, c11710, l11711, A11714, c11715, l11716, x11719, x11720, x11721, x11722, x11723, x11724, A11725, c11726, l11727, x11730, x11731, x11732, x11733, A11734, c11735, l11736, (IntKind.wrap .i64 (x9950 + 1)), (by exact Kn.pick (ks := [0, 2, 7, 8, 9, 10, 11]) hk rfl), (hs.relab0 R_121 rfl), (f10.relab R_121 rfl), (f26.relab R_121 rfl), (f11261.relab R_121 rfl), (f11675.relab R_121 rfl), (f11678.relab R_121 rfl), (f11683.relab R_121 rfl), (f11707.relab R_121 rfl), (f11712.relab R_121 rfl), (f11717.relab R_121 rfl), (f11728.relab R_121 rfl), (f11737.relab R_121 rfl), (fg0.relab R_121 rfl), (fg1.relab R_121 rfl), (fg2.relab R_121 rfl), (fg3.relab R_121 rfl), hc11676, hc11684, hc11708, hc11713, hc11718, hc11729, hc11738, (hlp11096 ▸ H)⟩
      refine wpIn_block ?_
      refine x_seq ?_
      refine wpIn_region_lit ?_
      refine x_run tab hk (k := 1) (lv := []) (ks := [0, 2, 7, 8, 9, 10, 11, 12]) (e' := [(0, .slice A9884 (p0).length c9885), (2, .int .i64 (IntKind.wrap .i64 (1 + (bits .and .i64 p2 3)))), (7, .pointer (some ⟨bx9, 0, none⟩)), (8, .pointer (some ⟨bx25, 0, none⟩)), (9, .pointer (some ⟨bx47, 0, none⟩)), (10, .slice A9945 (l9947).length c9946), (11, .int .i64 x9950), (12, .string (⟨#[]⟩ : ByteArray))]) rfl trivial fun a hk => ?_
      refine wpListIn_nil ?_
      refine then_n ?_
      refine x_mid (fun a_ w_ => ∃ o11863 : Nat → Nat, ∃ A11864 : Option Addr, ∃ c11865 : Nat, ∃ x11868 : ByteArray, Kn 151 a_ [(0, .slice A11864 (p0).length c11865), (2, .int .i64 (IntKind.wrap .i64 (1 + (bits .and .i64 p2 3)))), (7, .pointer (some ⟨bx9, 0, none⟩)), (8, .pointer (some ⟨bx25, 0, none⟩)), (9, .pointer (some ⟨bx47, 0, none⟩)), (10, .slice A9945 (l9947).length c9946), (11, .int .i64 x9950), (12, .string x11868)] ∧ St [] w (fun _ => 0) w_ o11863 ∧ Ft (Bx bx9 56 [.pointer (some ⟨bx9888, 0, none⟩), .int .i64 x9896, .int .i64 x9897, .int .i64 x9898, .int .i64 x9899, .bool x9900, .bool x9901, .bool x9902, .int .i64 x9903, .int .i64 x9904, .int .i64 x9905, .int .i64 x9906, .bool x9907, .bool x9908, .bool x9909, .bool x9910, .int .i64 x9911, .int .i64 x9912, .bool x9913, .string x9914]) w_ o11863 2552 ∧ Ft (RdC encStr A11864 p0) w_ o11863 0 ∧ Ft (Bx bx25 61 [.slice A9915 (l9917).length c9916, .slice A9920 (l9922).length c9921, .slice A9925 (l9927).length c9926]) w_ o11863 2556 ∧ Ft (Bx bx47 34 [.int .i64 x9930, .bool x9931, .bool x9932, .bool x9933, .bool x9934, .int .i64 x9935, .slice A9936 (l9938).length c9937, .string x9941, .int .u8 x9942, .int .i32 x9943, .int .i64 x9944, .slice none 0 0]) w_ o11863 2558 ∧ Ft (Bx bx9888 75 [.int .i64 x9890, .slice A9891 (l9893).length c9892]) w_ o11863 2551 ∧ NOwn dT65 66 A9891 c9892 l9893 w_ o11863 2550 1 ∧ NOwn (dRows ET46) 43 A9915 c9916 l9917 w_ o11863 2553 1 ∧ Ft (Own (encInt .i64) 3 (.slice A9920 (l9922).length c9921) l9922) w_ o11863 2554 ∧ Ft (Own ET46 47 (.slice A9925 (l9927).length c9926) l9927) w_ o11863 2555 ∧ Ft (Own (encInt .i64) 3 (.slice A9936 (l9938).length c9937) l9938) w_ o11863 2557 ∧ Ft (Own encStr 9 (.slice A9945 (l9947).length c9946) l9947) w_ o11863 2559 ∧ Ft (RdC ET109 (some ⟨0, 0, none⟩) glob0) w_ o11863 0 ∧ Ft (RdC ET109 (some ⟨1, 0, none⟩) glob1) w_ o11863 0 ∧ Ft (RdC (encInt .u32) (some ⟨2, 0, none⟩) glob2) w_ o11863 0 ∧ Ft (RdC ET141 (some ⟨3, 0, none⟩) glob3) w_ o11863 0 ∧ (p0).length ≤ c11865 ∧ tidewracktop_TidewrackLines_j15 K x9890 l9893 x9896 x9897 x9898 x9899 x9900 x9901 x9902 x9903 x9904 x9905 x9906 x9907 x9908 x9909 x9910 x9911 x9912 x9913 x9914 l9917 l9922 l9927 x9930 x9931 x9932 x9933 x9934 x9935 l9938 x9941 x9942 x9943 x9944 l9947 x9950 lp11095 x11868 = some r) ?_ ?_
      rotate_left
      · refine fun a w11869 z0 => z0.elim fun o11863 z1 => z1.elim fun A11864 z2 => z2.elim fun c11865 z3 => z3.elim fun x11868 z4 => z4.elim fun hk z5 => z5.elim fun hs z6 => z6.elim fun f10 z7 => z7.elim fun f11866 z8 => z8.elim fun f26 z9 => z9.elim fun f48 z10 => z10.elim fun f9889 z11 => z11.elim fun f9894 z12 => z12.elim fun f9918 z13 => z13.elim fun f9923 z14 => z14.elim fun f9928 z15 => z15.elim fun f9939 z16 => z16.elim fun f9948 z17 => z17.elim fun fg0 z18 => z18.elim fun fg1 z19 => z19.elim fun fg2 z20 => z20.elim fun fg3 z21 => z21.elim fun hc11867 H => ?_
        clear z0 z1 z2 z3 z4 z5 z6 z7 z8 z9 z10 z11 z12 z13 z14 z15 z16 z17 z18 z19 z20 z21
        rw [tidewracktop_TidewrackLines_j15] at H
        refine x_seq ?_
        refine wpIn_region_lit ?_
        refine x_run tab hk (k := 2) (lv := []) (ks := [0, 2, 7, 8, 9, 11, 12, 74, 75]) (e' := [(0, .slice A11864 (p0).length c11865), (2, .int .i64 (IntKind.wrap .i64 (1 + (bits .and .i64 p2 3)))), (7, .pointer (some ⟨bx9, 0, none⟩)), (8, .pointer (some ⟨bx25, 0, none⟩)), (9, .pointer (some ⟨bx47, 0, none⟩)), (11, .int .i64 x9950), (12, .string x11868), (74, .slice A9945 (l9947).length c9946), (75, .string x11868)]) rfl trivial fun a hk => ?_
        refine x_op hk rfl ?_
        refine op_slice (o := o11863) tab hk (vs := [.string x11868]) (cs := [.string x11868]) rfl rfl rfl rfl rfl rfl rfl rfl rfl 2560 fun bx11873 w11870 o11871 st11872 f11874 => ?_
        replace f10 := f10.st st11872 (by decide)
        replace f11866 := f11866.st st11872 (by decide)
        replace f26 := f26.st st11872 (by decide)
        replace f48 := f48.st st11872 (by decide)
        replace f9889 := f9889.st st11872 (by decide)
        replace f9894 := f9894.st st11872 (by decide)
        replace f9918 := f9918.st st11872 (by decide)
        replace f9923 := f9923.st st11872 (by decide)
        replace f9928 := f9928.st st11872 (by decide)
        replace f9939 := f9939.st st11872 (by decide)
        replace f9948 := f9948.st st11872 (by decide)
        replace fg0 := fg0.st st11872 (by decide)
        replace fg1 := fg1.st st11872 (by decide)
        replace fg2 := fg2.st st11872 (by decide)
        replace fg3 := fg3.st st11872 (by decide)
        replace hs := hs.loc0 st11872 (by decide)
        have f11875 : Ft (Own encStr 9 (.slice (some ⟨bx11873, 0, none⟩) (([x11868] : List ByteArray)).length 1) ([x11868] : List ByteArray)) w11870 o11871 2560 := f11874.imp fun _ h_ => Own.of_box h_ rfl (by simp)
        have hk := hk.put 76 (.slice (some ⟨bx11873, 0, none⟩) (([x11868] : List ByteArray)).length 1) rfl
        refine x_op hk rfl ?_
        obtain ⟨q11879, H⟩ := ifS H
        refine op_append (o := o11871) (E := encStr) (xs := l9947) (ys := ([x11868] : List ByteArray)) tab hk rfl rfl rfl rfl rfl rfl rfl f9948 (Own.rd f11875.now) q11879 fun A11880 c11881 w11876 o11877 st11878 f11882 hc11883 => ?_
        replace f10 := f10.st st11878 (by decide)
        replace f11866 := f11866.st st11878 (by decide)
        replace f11875 := f11875.st st11878 (by decide)
        replace f26 := f26.st st11878 (by decide)
        replace f48 := f48.st st11878 (by decide)
        replace f9889 := f9889.st st11878 (by decide)
        replace f9894 := f9894.st st11878 (by decide)
        replace f9918 := f9918.st st11878 (by decide)
        replace f9923 := f9923.st st11878 (by decide)
        replace f9928 := f9928.st st11878 (by decide)
        replace f9939 := f9939.st st11878 (by decide)
        replace fg0 := fg0.st st11878 (by decide)
        replace fg1 := fg1.st st11878 (by decide)
        replace fg2 := fg2.st st11878 (by decide)
        replace fg3 := fg3.st st11878 (by decide)
        replace hs := hs.loc0 st11878 (by decide)
        have hk := hk.put 77 (.slice A11880 ((l9947 ++ ([x11868] : List ByteArray))).length c11881) rfl
        refine x_run tab hk (k := 1) (lv := []) (ks := [0, 2, 7, 8, 9, 10, 11, 12]) (e' := [(0, .slice A11864 (p0).length c11865), (2, .int .i64 (IntKind.wrap .i64 (1 + (bits .and .i64 p2 3)))), (7, .pointer (some ⟨bx9, 0, none⟩)), (8, .pointer (some ⟨bx25, 0, none⟩)), (9, .pointer (some ⟨bx47, 0, none⟩)), (10, .slice A11880 ((l9947 ++ ([x11868] : List ByteArray))).length c11881), (11, .int .i64 x9950), (12, .string x11868)]) rfl trivial fun a hk => ?_
        refine wpListIn_nil ?_
        refine then_n ?_
        refine x_seq ?_
        refine wpIn_region_lit ?_
        obtain ⟨q11884, H⟩ := ifS H
        refine x_run tab hk (k := 2) (lv := []) (ks := [0, 2, 7, 8, 9, 10, 11, 79]) (e' := [(0, .slice A11864 (p0).length c11865), (2, .int .i64 (IntKind.wrap .i64 (1 + (bits .and .i64 p2 3)))), (7, .pointer (some ⟨bx9, 0, none⟩)), (8, .pointer (some ⟨bx25, 0, none⟩)), (9, .pointer (some ⟨bx47, 0, none⟩)), (10, .slice A11880 ((l9947 ++ ([x11868] : List ByteArray))).length c11881), (11, .int .i64 x9950), (79, .string (x11868 ++ (⟨#[13, 10]⟩ : ByteArray)))]) rfl ⟨q11884, trivial⟩ fun a hk => ?_
        refine x_op hk rfl ?_
        obtain ⟨t11888, hc11889, H⟩ := bindS H
        refine op_call hk ent_6 (vs := [.pointer (some ⟨bx47, 0, none⟩), .string (x11868 ++ (⟨#[13, 10]⟩ : ByteArray))]) rfl (seq_Parser_Feed_calls K bx47 A9936 c9937 none 0 (⟨x9930, x9931, x9932, x9933, x9934, x9935, l9938, x9941, x9942, x9943, x9944, ([] : List T37)⟩ : T33) (x11868 ++ (⟨#[13, 10]⟩ : ByteArray)) _ o11877 1 0 fg3 2558 f48 2557 f9939 hc9940 2561 (NOwn.nil _ _ _ _ 2561 1) (by simp) (by decide) (by decide) 2562  _ hc11889) ?_
        rintro _ w11890 ⟨o11891, A11893, c11894, A11898, c11899, rfl, st11892, f11895, hc11896, f11897, f11900, hc11901, f11902, hc11903⟩
        replace f10 := f10.st st11892 (by decide)
        replace f11866 := f11866.st st11892 (by decide)
        replace f11882 := f11882.st st11892 (by decide)
        replace f26 := f26.st st11892 (by decide)
        replace f9889 := f9889.st st11892 (by decide)
        replace f9894 := f9894.st st11892 (by decide)
        replace f9918 := f9918.st st11892 (by decide)
        replace f9923 := f9923.st st11892 (by decide)
        replace f9928 := f9928.st st11892 (by decide)
        replace fg0 := fg0.st st11892 (by decide)
        replace fg1 := fg1.st st11892 (by decide)
        replace fg2 := fg2.st st11892 (by decide)
        replace fg3 := fg3.st st11892 (by decide)
        replace hs := hs.loc0 st11892 (by decide)
        have hz11904 : t11888.2.out = [] := NRd.nul f11902.rd
        have hk := hk.put 80 (.slice A11893 (t11888.1).length c11894) rfl
        refine x_run tab hk (k := 2) (lv := []) (ks := [0, 2, 7, 8, 9, 10, 11, 80, 81, 82]) (e' := [(0, .slice A11864 (p0).length c11865), (2, .int .i64 (IntKind.wrap .i64 (1 + (bits .and .i64 p2 3)))), (7, .pointer (some ⟨bx9, 0, none⟩)), (8, .pointer (some ⟨bx25, 0, none⟩)), (9, .pointer (some ⟨bx47, 0, none⟩)), (10, .slice A11880 ((l9947 ++ ([x11868] : List ByteArray))).length c11881), (11, .int .i64 x9950), (80, .slice A11893 (t11888.1).length c11894), (81, .int .i64 ((t11888.1).length : Int)), (82, .int .i64 0)]) rfl trivial fun a hk => ?_
        refine wpListIn_nil ?_
        refine then_n ?_
        refine wpIn_block ?_
        refine x_loop (fun j_ a_ w_ => ∃ o11964 : Nat → Nat, ∃ bx11965 : Nat, ∃ x11967 : Int, ∃ A11968 : Option Addr, ∃ c11969 : Nat, ∃ l11970 : List T65, ∃ x11973 : Int, ∃ x11974 : Int, ∃ x11975 : Int, ∃ x11976 : Int, ∃ x11977 : Bool, ∃ x11978 : Bool, ∃ x11979 : Bool, ∃ x11980 : Int, ∃ x11981 : Int, ∃ x11982 : Int, ∃ x11983 : Int, ∃ x11984 : Bool, ∃ x11985 : Bool, ∃ x11986 : Bool, ∃ x11987 : Bool, ∃ x11988 : Int, ∃ x11989 : Int, ∃ x11990 : Bool, ∃ x11991 : ByteArray, ∃ A11992 : Option Addr, ∃ c11993 : Nat, ∃ l11994 : List (List T46), ∃ A11997 : Option Addr, ∃ c11998 : Nat, ∃ l11999 : List Int, ∃ A12002 : Option Addr, ∃ c12003 : Nat, ∃ l12004 : List T46, ∃ x12007 : Int, Kn 151 a_ [(0, .slice A11864 (p0).length c11865), (2, .int .i64 (IntKind.wrap .i64 (1 + (bits .and .i64 p2 3)))), (7, .pointer (some ⟨bx9, 0, none⟩)), (8, .pointer (some ⟨bx25, 0, none⟩)), (9, .pointer (some ⟨bx47, 0, none⟩)), (10, .slice A11880 ((l9947 ++ ([x11868] : List ByteArray))).length c11881), (11, .int .i64 x9950), (80, .slice A11893 (t11888.1).length c11894), (81, .int .i64 ((t11888.1).length : Int)), (82, .int .i64 x12007)] ∧ St [] w (fun _ => 0) w_ o11964 ∧ Ft (Bx bx9 56 [.pointer (some ⟨bx11965, 0, none⟩), .int .i64 x11973, .int .i64 x11974, .int .i64 x11975, .int .i64 x11976, .bool x11977, .bool x11978, .bool x11979, .int .i64 x11980, .int .i64 x11981, .int .i64 x11982, .int .i64 x11983, .bool x11984, .bool x11985, .bool x11986, .bool x11987, .int .i64 x11988, .int .i64 x11989, .bool x11990, .string x11991]) w_ o11964 2578 ∧ Ft (RdC encStr A11864 p0) w_ o11964 0 ∧ Ft (Own encStr 9 (.slice A11880 ((l9947 ++ ([x11868] : List ByteArray))).length c11881) (l9947 ++ ([x11868] : List ByteArray))) w_ o11964 2585 ∧ NOwn dT37 38 A11893 c11894 t11888.1 w_ o11964 2586 1 ∧ Ft (Bx bx47 34 [.int .i64 t11888.2.state, .bool t11888.2.order_private_, .bool t11888.2.order_wrong, .bool t11888.2.order_any, .bool t11888.2.order_some, .int .i64 t11888.2.order_n, .slice A11898 (t11888.2.order_nums).length c11899, .string t11888.2.text, .int .u8 t11888.2.runes_Lead, .int .i32 t11888.2.runes_Rune, .int .i64 t11888.2.runes_Need, .slice none 0 0]) w_ o11964 2584 ∧ Ft (Own (encInt .i64) 3 (.slice A11898 (t11888.2.order_nums).length c11899) t11888.2.order_nums) w_ o11964 2583 ∧ Ft (Bx bx11965 75 [.int .i64 x11967, .slice A11968 (l11970).length c11969]) w_ o11964 2577 ∧ NOwn dT65 66 A11968 c11969 l11970 w_ o11964 2576 1 ∧ NOwn (dRows ET46) 43 A11992 c11993 l11994 w_ o11964 2579 1 ∧ Ft (Own (encInt .i64) 3 (.slice A11997 (l11999).length c11998) l11999) w_ o11964 2580 ∧ Ft (Own ET46 47 (.slice A12002 (l12004).length c12003) l12004) w_ o11964 2581 ∧ Ft (Bx bx25 61 [.slice A11992 (l11994).length c11993, .slice A11997 (l11999).length c11998, .slice A12002 (l12004).length c12003]) w_ o11964 2582 ∧ Ft (RdC ET109 (some ⟨0, 0, none⟩) glob0) w_ o11964 0 ∧ Ft (RdC ET109 (some ⟨1, 0, none⟩) glob1) w_ o11964 0 ∧ Ft (RdC (encInt .u32) (some ⟨2, 0, none⟩) glob2) w_ o11964 0 ∧ Ft (RdC ET141 (some ⟨3, 0, none⟩) glob3) w_ o11964 0 ∧ (l11970).length ≤ c11969 ∧ (l11994).length ≤ c11993 ∧ (l11999).length ≤ c11998 ∧ (l12004).length ≤ c12003 ∧ tidewracktop_TidewrackLines_l16 K l9947 x9950 lp11095 x11868 t11888 j_ x11967 l11970 x11973 x11974 x11975 x11976 x11977 x11978 x11979 x11980 x11981 x11982 x11983 x11984 x11985 x11986 x11987 x11988 x11989 x11990 x11991 l11994 l11999 l12004 x12007 = some r) (k := K) ⟨(fun b_ => R_122 (o11891 b_)), bx9888, x9890, A9891, c9892, l9893, x9896, x9897, x9898, x9899, x9900, x9901, x9902, x9903, x9904, x9905, x9906, x9907, x9908, x9909, x9910, x9911, x9912, x9913, x9914, A9915, c9916, l9917, A9920, c9921, l9922, A9925, c9926, l9927, 0, (by exact Kn.pick (ks := [0, 2, 7, 8, 9, 10, 11, 80, 81, 82]) hk rfl), (hs.relab0 R_122 rfl), (f10.relab R_122 rfl), (f11866.relab R_122 rfl), (f11882.relab R_122 rfl), (f11895.relab R_122 rfl), (f11897.relab R_122 rfl), (f11900.relab R_122 rfl), (f9889.relab R_122 rfl), (f9894.relab R_122 rfl), (f9918.relab R_122 rfl), (f9923.relab R_122 rfl), (f9928.relab R_122 rfl), (f26.relab R_122 rfl), (fg0.relab R_122 rfl), (fg1.relab R_122 rfl), (fg2.relab R_122 rfl), (fg3.relab R_122 rfl), hc9895, hc9919, hc9924, hc9929, H⟩ (fun _ _ z => z.elim fun _ z => z.elim fun _ z => z.elim fun _ z => z.elim fun _ z => z.elim fun _ z => z.elim fun _ z => z.elim fun _ z => z.elim fun _ z => z.elim fun _ z => z.elim fun _ z => z.elim fun _ z => z.elim fun _ z => z.elim fun _ z => z.elim fun _ z => z.elim fun _ z => z.elim fun _ z => z.elim fun _ z => z.elim fun _ z => z.elim fun _ z => z.elim fun _ z => z.elim fun _ z => z.elim fun _ z => z.elim fun _ z => z.elim fun _ z => z.elim fun _ z => z.elim fun _ z => z.elim fun _ z => z.elim fun _ z => z.elim fun _ z => z.elim fun _ z => z.elim fun _ z => z.elim fun _ z => z.elim fun _ z => z.elim fun _ z => z.elim fun _ z => z.elim fun _ z => z.elim fun _ z => z.elim fun _ z => z.elim fun _ z => z.elim fun _ z => z.elim fun _ z => z.elim fun _ z => z.elim fun _ z => z.elim fun _ z => z.elim fun _ z => z.elim fun _ z => z.elim fun _ z => z.elim fun _ z => z.elim fun _ z => z.elim fun _ z => z.elim fun _ z => z.elim fun _ z => z.elim fun _ z => z.elim fun _ z => z.elim fun _ z => z.elim fun _ z => z.elim fun _ z => absurd (show (none : Option Bool) = some r from z) (by simp)) ?_
        refine fun k12065 a w12064 z0 => z0.elim fun o11964 z1 => z1.elim fun bx11965 z2 => z2.elim fun x11967 z3 => z3.elim fun A11968 z4 => z4.elim fun c11969 z5 => z5.elim fun l11970 z6 => z6.elim fun x11973 z7 => z7.elim fun x11974 z8 => z8.elim fun x11975 z9 => z9.elim fun x11976 z10 => z10.elim fun x11977 z11 => z11.elim fun x11978 z12 => z12.elim fun x11979 z13 => z13.elim fun x11980 z14 => z14.elim fun x11981 z15 => z15.elim fun x11982 z16 => z16.elim fun x11983 z17 => z17.elim fun x11984 z18 => z18.elim fun x11985 z19 => z19.elim fun x11986 z20 => z20.elim fun x11987 z21 => z21.elim fun x11988 z22 => z22.elim fun x11989 z23 => z23.elim fun x11990 z24 => z24.elim fun x11991 z25 => z25.elim fun A11992 z26 => z26.elim fun c11993 z27 => z27.elim fun l11994 z28 => z28.elim fun A11997 z29 => z29.elim fun c11998 z30 => z30.elim fun l11999 z31 => z31.elim fun A12002 z32 => z32.elim fun c12003 z33 => z33.elim fun l12004 z34 => z34.elim fun x12007 z35 => z35.elim fun hk z36 => z36.elim fun hs z37 => z37.elim fun f10 z38 => z38.elim fun f11866 z39 => z39.elim fun f11882 z40 => z40.elim fun f11895 z41 => z41.elim fun f11897 z42 => z42.elim fun f11900 z43 => z43.elim fun f11966 z44 => z44.elim fun f11971 z45 => z45.elim fun f11995 z46 => z46.elim fun f12000 z47 => z47.elim fun f12005 z48 => z48.elim fun f26 z49 => z49.elim fun fg0 z50 => z50.elim fun fg1 z51 => z51.elim fun fg2 z52 => z52.elim fun fg3 z53 => z53.elim fun hc11972 z54 => z54.elim fun hc11996 z55 => z55.elim fun hc12001 z56 => z56.elim fun hc12006 H => ?_
        clear z0 z1 z2 z3 z4 z5 z6 z7 z8 z9 z10 z11 z12 z13 z14 z15 z16 z17 z18 z19 z20 z21 z22 z23 z24 z25 z26 z27 z28 z29 z30 z31 z32 z33 z34 z35 z36 z37 z38 z39 z40 z41 z42 z43 z44 z45 z46 z47 z48 z49 z50 z51 z52 z53 z54 z55 z56
        rw [tidewracktop_TidewrackLines_l16] at H
        obtain ⟨lp12066, hlp12067⟩ : ∃ lp_, lp_ = tidewracktop_TidewrackLines_l16 K l9947 x9950 lp11095 x11868 t11888 k12065 := ⟨_, rfl⟩
        rw [← hlp12067] at H
        refine x_seq ?_
        refine wpIn_region_lit ?_
        refine x_run tab hk (k := 1) (lv := []) (ks := [0, 2, 7, 8, 9, 10, 11, 80, 81, 82, 83]) (e' := [(0, .slice A11864 (p0).length c11865), (2, .int .i64 (IntKind.wrap .i64 (1 + (bits .and .i64 p2 3)))), (7, .pointer (some ⟨bx9, 0, none⟩)), (8, .pointer (some ⟨bx25, 0, none⟩)), (9, .pointer (some ⟨bx47, 0, none⟩)), (10, .slice A11880 ((l9947 ++ ([x11868] : List ByteArray))).length c11881), (11, .int .i64 x9950), (80, .slice A11893 (t11888.1).length c11894), (81, .int .i64 ((t11888.1).length : Int)), (82, .int .i64 x12007), (83, .bool (decide (x12007 < ((t11888.1).length : Int))))]) rfl trivial fun a hk => ?_
        refine wpListIn_nil ?_
        refine then_n ?_
        refine x_seq ?_
        cases b12068 : (decide (x12007 < ((t11888.1).length : Int)))
        · rw [b12068] at hk H
          replace H := bifF H
          refine x_if hk (b := false) rfl ?_
          refine (show Code.wpIn _ _ _ _ _ _ _ from ?_)
          refine wpIn_exit ?_
          refine then_x ?_
          refine then_x ?_
          refine blk_x ?_
          refine blk_n ?_
          refine then_n ?_
          exact ⟨(fun b_ => R_123 (o11964 b_)), A11864, c11865, bx11965, x11967, A11968, c11969, l11970, x11973, x11974, x11975, x11976, x11977, x11978, x11979, x11980, x11981, x11982, x11983, x11984, x11985, x11986, x11987, x11988, x11989, x11990, x11991, A11992, c11993, l11994, A11997, c11998, l11999, A12002, c12003, l12004, t11888.2.state, t11888.2.order_private_, t11888.2.order_wrong, t11888.2.order_any, t11888.2.order_some, t11888.2.order_n, A11898, c11899, t11888.2.order_nums, t11888.2.text, t11888.2.runes_Lead, t11888.2.runes_Rune, t11888.2.runes_Need, A11880, c11881, (l9947 ++ ([x11868] : List ByteArray)), (by exact Kn.pick (ks := [0, 2, 7, 8, 9, 10, 11]) hk rfl), (hs.relab0 R_123 rfl), (f10.relab R_123 rfl), (f11897.relab R_123 rfl), (f11866.relab R_123 rfl), (f11966.relab R_123 rfl), (f11971.relab R_123 rfl), (f11995.relab R_123 rfl), (f12000.relab R_123 rfl), (f12005.relab R_123 rfl), (f11900.relab R_123 rfl), (f11882.relab R_123 rfl), (f26.relab R_123 rfl), (fg0.relab R_123 rfl), (fg1.relab R_123 rfl), (fg2.relab R_123 rfl), (fg3.relab R_123 rfl), hc11867, hc11972, hc11996, hc12001, hc12006, hc11901, hc11883, H⟩
        · rw [b12068] at hk H
          replace H := bifT H
          refine x_if hk (b := true) rfl ?_
          refine (show Code.wpIn _ _ _ _ _ _ _ from ?_)
          refine wpIn_skip ?_
          refine then_n ?_
          refine x_seq ?_
          refine wpIn_block ?_
          refine x_seq ?_
          refine wpIn_region_lit ?_
          obtain ⟨q12069, H⟩ := ifS H
          obtain ⟨ad12070, hAad12070⟩ := NRd.addr f11895.rd q12069
          have hk_C := hk
          have f10_C := f10
          have f11866_C := f11866
          have f11882_C := f11882
          have f11895_C := f11895
          have f11897_C := f11897
          have f11900_C := f11900
          have f11966_C := f11966
          have f11971_C := f11971
          have f11995_C := f11995
          have f12000_C := f12000
          have f12005_C := f12005
          have f26_C := f26
          have fg0_C := fg0
          have fg1_C := fg1
          have fg2_C := fg2
          have fg3_C := fg3
          subst hAad12070
          have hk := hk_C
          clear hk_C
          have f10 := f10_C
          clear f10_C
          have f11866 := f11866_C
          clear f11866_C
          have f11882 := f11882_C
          clear f11882_C
          have f11895 := f11895_C
          clear f11895_C
          have f11897 := f11897_C
          clear f11897_C
          have f11900 := f11900_C
          clear f11900_C
          have f11966 := f11966_C
          clear f11966_C
          have f11971 := f11971_C
          clear f11971_C
          have f11995 := f11995_C
          clear f11995_C
          have f12000 := f12000_C
          clear f12000_C
          have f12005 := f12005_C
          clear f12005_C
          have f26 := f26_C
          clear f26_C
          have fg0 := fg0_C
          clear fg0_C
          have fg1 := fg1_C
          clear fg1_C
          have fg2 := fg2_C
          clear fg2_C
          have fg3 := fg3_C
          clear fg3_C
          obtain ⟨A12071, c12072, f12073, f12074, hc12075⟩ := elT37 f11895.rd (i := x12007) q12069
          refine x_run tab hk (k := 2) (lv := [.agg #[.int .i64 ((rdD zT37 t11888.1 x12007).Kind), .int .i32 ((rdD zT37 t11888.1 x12007).Rune), .int .u8 ((rdD zT37 t11888.1 x12007).Byte), .bool ((rdD zT37 t11888.1 x12007).Private), .slice A12071 ((rdD zT37 t11888.1 x12007).Nums).length c12072, .string ((rdD zT37 t11888.1 x12007).Text)]]) (ks := [0, 2, 7, 8, 9, 10, 11, 80, 81, 82, 85]) (e' := [(0, .slice A11864 (p0).length c11865), (2, .int .i64 (IntKind.wrap .i64 (1 + (bits .and .i64 p2 3)))), (7, .pointer (some ⟨bx9, 0, none⟩)), (8, .pointer (some ⟨bx25, 0, none⟩)), (9, .pointer (some ⟨bx47, 0, none⟩)), (10, .slice A11880 ((l9947 ++ ([x11868] : List ByteArray))).length c11881), (11, .int .i64 x9950), (80, .slice (some ad12070) (t11888.1).length c11894), (81, .int .i64 ((t11888.1).length : Int)), (82, .int .i64 x12007), (85, .agg #[.int .i64 ((rdD zT37 t11888.1 x12007).Kind), .int .i32 ((rdD zT37 t11888.1 x12007).Rune), .int .u8 ((rdD zT37 t11888.1 x12007).Byte), .bool ((rdD zT37 t11888.1 x12007).Private), .slice A12071 ((rdD zT37 t11888.1 x12007).Nums).length c12072, .string ((rdD zT37 t11888.1 x12007).Text)])]) rfl ⟨q12069, (CellsAt.all f12073.now tab rfl rfl rfl), trivial⟩ fun a hk => ?_
          refine x_op hk rfl ?_
          refine op_alloc (o := o11964) tab (t := 38) (cs := [.int .i64 0, .int .i32 0, .int .u8 0, .bool false, .slice none 0 0, .string (⟨#[]⟩ : ByteArray)]) rfl rfl 2589 fun bx12079 w12076 o12077 st12078 f12080 => ?_
          replace f10 := f10.st st12078 (by decide)
          replace f11866 := f11866.st st12078 (by decide)
          replace f11882 := f11882.st st12078 (by decide)
          replace f11895 := f11895.st st12078 (by decide)
          replace f11897 := f11897.st st12078 (by decide)
          replace f11900 := f11900.st st12078 (by decide)
          replace f11966 := f11966.st st12078 (by decide)
          replace f11971 := f11971.st st12078 (by decide)
          replace f11995 := f11995.st st12078 (by decide)
          replace f12000 := f12000.st st12078 (by decide)
          replace f12005 := f12005.st st12078 (by decide)
          replace f12074 := f12074.st st12078 (by decide)
          replace f26 := f26.st st12078 (by decide)
          replace fg0 := fg0.st st12078 (by decide)
          replace fg1 := fg1.st st12078 (by decide)
          replace fg2 := fg2.st st12078 (by decide)
          replace fg3 := fg3.st st12078 (by decide)
          replace hs := hs.loc0 st12078 (by decide)
          have hk := hk.put 15 (.pointer (some ⟨bx12079, 0, none⟩)) rfl
          refine x_op hk rfl ?_
          refine op_store tab hk (t := 38) (v := .agg #[.int .i64 ((rdD zT37 t11888.1 x12007).Kind), .int .i32 ((rdD zT37 t11888.1 x12007).Rune), .int .u8 ((rdD zT37 t11888.1 x12007).Byte), .bool ((rdD zT37 t11888.1 x12007).Private), .slice A12071 ((rdD zT37 t11888.1 x12007).Nums).length c12072, .string ((rdD zT37 t11888.1 x12007).Text)]) (b := bx12079) (k := 0) (cs' := [.int .i64 ((rdD zT37 t11888.1 x12007).Kind), .int .i32 ((rdD zT37 t11888.1 x12007).Rune), .int .u8 ((rdD zT37 t11888.1 x12007).Byte), .bool ((rdD zT37 t11888.1 x12007).Private), .slice A12071 ((rdD zT37 t11888.1 x12007).Nums).length c12072, .string ((rdD zT37 t11888.1 x12007).Text)]) rfl rfl rfl rfl rfl rfl f12080 rfl rfl fun w12081 o12082 st12083 f12080_ => ?_
          replace f10 := f10.st st12083 (by decide)
          replace f11866 := f11866.st st12083 (by decide)
          replace f11882 := f11882.st st12083 (by decide)
          replace f11895 := f11895.st st12083 (by decide)
          replace f11897 := f11897.st st12083 (by decide)
          replace f11900 := f11900.st st12083 (by decide)
          replace f11966 := f11966.st st12083 (by decide)
          replace f11971 := f11971.st st12083 (by decide)
          replace f11995 := f11995.st st12083 (by decide)
          replace f12000 := f12000.st st12083 (by decide)
          replace f12005 := f12005.st st12083 (by decide)
          replace f12074 := f12074.st st12083 (by decide)
          replace f26 := f26.st st12083 (by decide)
          replace fg0 := fg0.st st12083 (by decide)
          replace fg1 := fg1.st st12083 (by decide)
          replace fg2 := fg2.st st12083 (by decide)
          replace fg3 := fg3.st st12083 (by decide)
          replace hs := hs.loc0 st12083 (by decide)
          replace f12080 := f12080_
          refine wpListIn_nil ?_
          refine then_n ?_
          refine wpIn_region_lit ?_
          refine x_run tab hk (k := 3) (lv := [.agg #[.int .i64 ((rdD zT37 t11888.1 x12007).Kind), .int .i32 ((rdD zT37 t11888.1 x12007).Rune), .int .u8 ((rdD zT37 t11888.1 x12007).Byte), .bool ((rdD zT37 t11888.1 x12007).Private), .slice A12071 ((rdD zT37 t11888.1 x12007).Nums).length c12072, .string ((rdD zT37 t11888.1 x12007).Text)]]) (ks := [0, 2, 7, 8, 9, 10, 11, 80, 81, 82, 86, 87, 88]) (e' := [(0, .slice A11864 (p0).length c11865), (2, .int .i64 (IntKind.wrap .i64 (1 + (bits .and .i64 p2 3)))), (7, .pointer (some ⟨bx9, 0, none⟩)), (8, .pointer (some ⟨bx25, 0, none⟩)), (9, .pointer (some ⟨bx47, 0, none⟩)), (10, .slice A11880 ((l9947 ++ ([x11868] : List ByteArray))).length c11881), (11, .int .i64 x9950), (80, .slice (some ad12070) (t11888.1).length c11894), (81, .int .i64 ((t11888.1).length : Int)), (82, .int .i64 x12007), (86, .pointer (some ⟨bx25, 0, none⟩)), (87, .pointer (some ⟨bx9, 0, none⟩)), (88, .agg #[.int .i64 ((rdD zT37 t11888.1 x12007).Kind), .int .i32 ((rdD zT37 t11888.1 x12007).Rune), .int .u8 ((rdD zT37 t11888.1 x12007).Byte), .bool ((rdD zT37 t11888.1 x12007).Private), .slice A12071 ((rdD zT37 t11888.1 x12007).Nums).length c12072, .string ((rdD zT37 t11888.1 x12007).Text)])]) rfl ⟨(load_box tab rfl rfl f12080.now (k := 0) rfl rfl), trivial⟩ fun a hk => ?_
          refine x_op hk rfl ?_
          obtain ⟨t12087, hc12088, H⟩ := bindS H
          refine op_call hk ent_8 (vs := [.pointer (some ⟨bx9, 0, none⟩), .agg #[.int .i64 ((rdD zT37 t11888.1 x12007).Kind), .int .i32 ((rdD zT37 t11888.1 x12007).Rune), .int .u8 ((rdD zT37 t11888.1 x12007).Byte), .bool ((rdD zT37 t11888.1 x12007).Private), .slice A12071 ((rdD zT37 t11888.1 x12007).Nums).length c12072, .string ((rdD zT37 t11888.1 x12007).Text)]]) rfl (screen_Screen_Do_calls K bx9 bx11965 A11968 c11969 (⟨x11967, l11970, x11973, x11974, x11975, x11976, x11977, x11978, x11979, x11980, x11981, x11982, x11983, x11984, x11985, x11986, x11987, x11988, x11989, x11990, x11991⟩ : T55) A12071 c12072 (rdD zT37 t11888.1 x12007) _ o12082 1 0 fg0 0 fg1 2578 f10 2576 f11971 hc11972 2577 f11966 f12074 hc12075 (by decide) (by decide) (by decide) 2590  _ hc12088) ?_
          rintro _ w12089 ⟨o12090, A12092, c12093, bx12097, A12099, c12100, rfl, st12091, f12094, hc12095, f12096, f12098, f12101, hc12102⟩
          replace f11866 := f11866.st st12091 (by decide)
          replace f11882 := f11882.st st12091 (by decide)
          replace f11895 := f11895.st st12091 (by decide)
          replace f11897 := f11897.st st12091 (by decide)
          replace f11900 := f11900.st st12091 (by decide)
          replace f11995 := f11995.st st12091 (by decide)
          replace f12000 := f12000.st st12091 (by decide)
          replace f12005 := f12005.st st12091 (by decide)
          replace f12074 := f12074.st st12091 (by decide)
          replace f26 := f26.st st12091 (by decide)
          replace fg0 := fg0.st st12091 (by decide)
          replace fg1 := fg1.st st12091 (by decide)
          replace fg2 := fg2.st st12091 (by decide)
          replace fg3 := fg3.st st12091 (by decide)
          replace hs := hs.loc0 st12091 (by decide)
          have hk := hk.put 89 (.slice A12092 (t12087.1).length c12093) rfl
          refine x_op hk rfl ?_
          obtain ⟨t12106, hc12107, H⟩ := bindS H
          refine op_call hk ent_7 (vs := [.pointer (some ⟨bx25, 0, none⟩), .slice A12092 (t12087.1).length c12093]) rfl (book_Book_Add_calls K bx25 A11992 c11993 A11997 c11998 A12002 c12003 (⟨l11994, l11999, l12004⟩ : T60) A12092 c12093 t12087.1 _ o12090 1 0 fg2 2582 f26 2579 f11995 hc11996 2580 f12000 hc12001 2581 f12005 hc12006 _ f12094.rd hc12095 (by decide) (by decide) (by decide)   _ hc12107) ?_
          rintro _ w12108 ⟨o12109, A12112, c12113, A12116, c12117, A12120, c12121, rfl, st12110, f12111, f12114, hc12115, f12118, hc12119, f12122, hc12123⟩
          replace f11866 := f11866.st st12110 (by decide)
          replace f11882 := f11882.st st12110 (by decide)
          replace f11895 := f11895.st st12110 (by decide)
          replace f11897 := f11897.st st12110 (by decide)
          replace f11900 := f11900.st st12110 (by decide)
          replace f12074 := f12074.st st12110 (by decide)
          replace f12094 := f12094.st st12110 (by decide)
          replace f12096 := f12096.st st12110 (by decide)
          replace f12098 := f12098.st st12110 (by decide)
          replace f12101 := f12101.st st12110 (by decide)
          replace fg0 := fg0.st st12110 (by decide)
          replace fg1 := fg1.st st12110 (by decide)
          replace fg2 := fg2.st st12110 (by decide)
          replace fg3 := fg3.st st12110 (by decide)
          replace hs := hs.loc0 st12110 (by decide)
          have hk := hk.put 90 (.int .i64 t12106.1) rfl
          refine wpListIn_nil ?_
          refine blk_n ?_
          refine then_n ?_
          refine wpIn_region_lit ?_
          refine x_run tab hk (k := 2) (lv := []) (ks := [0, 2, 7, 8, 9, 10, 11, 80, 81, 82]) (e' := [(0, .slice A11864 (p0).length c11865), (2, .int .i64 (IntKind.wrap .i64 (1 + (bits .and .i64 p2 3)))), (7, .pointer (some ⟨bx9, 0, none⟩)), (8, .pointer (some ⟨bx25, 0, none⟩)), (9, .pointer (some ⟨bx47, 0, none⟩)), (10, .slice A11880 ((l9947 ++ ([x11868] : List ByteArray))).length c11881), (11, .int .i64 x9950), (80, .slice (some ad12070) (t11888.1).length c11894), (81, .int .i64 ((t11888.1).length : Int)), (82, .int .i64 (IntKind.wrap .i64 (x12007 + 1)))]) rfl trivial fun a hk => ?_
          refine wpListIn_nil ?_
          refine then_n ?_
          exact ⟨k12065, Nat.le_refl _, o12109, bx12097, t12087.2.g_w, A12099, c12100, t12087.2.g_l, t12087.2.spot_x, t12087.2.spot_y, t12087.2.spot_style_Fore, t12087.2.spot_style_Back, t12087.2.spot_style_Bold, t12087.2.spot_style_Under, t12087.2.spot_style_Inverse, t12087.2.saved_x, t12087.2.saved_y, t12087.2.saved_style_Fore, t12087.2.saved_style_Back, t12087.2.saved_style_Bold, t12087.2.saved_style_Under, t12087.2.saved_style_Inverse, t12087.2.waiting, t12087.2.top, t12087.2.bottom, t12087.2.wraps, t12087.2.title, A12112, c12113, t12106.2.l, A12116, c12117, t12106.2.chains, A12120, c12121, t12106.2.begun, (IntKind.wrap .i64 (x12007 + 1)), (by exact Kn.pick (ks := [0, 2, 7, 8, 9, 10, 11, 80, 81, 82]) hk rfl), hs, f12096, f11866, f11882, f11895, f11897, f11900, f12098, f12101, f12114, f12118, f12122, f12111, fg0, fg1, fg2, fg3, hc12102, hc12115, hc12119, hc12123, (hlp12067 ▸ H)⟩
      refine x_seq ?_
      refine wpIn_region_lit ?_
      refine x_run tab hk (k := 1) (lv := []) (ks := [0, 2, 7, 8, 9, 10, 11, 12, 13]) (e' := [(0, .slice A9884 (p0).length c9885), (2, .int .i64 (IntKind.wrap .i64 (1 + (bits .and .i64 p2 3)))), (7, .pointer (some ⟨bx9, 0, none⟩)), (8, .pointer (some ⟨bx25, 0, none⟩)), (9, .pointer (some ⟨bx47, 0, none⟩)), (10, .slice A9945 (l9947).length c9946), (11, .int .i64 x9950), (12, .string (⟨#[]⟩ : ByteArray)), (13, .int .i64 0)]) rfl trivial fun a hk => ?_
      refine wpListIn_nil ?_
      refine then_n ?_
      refine wpIn_block ?_
      refine x_loop (fun j_ a_ w_ => ∃ o12160 : Nat → Nat, ∃ A12161 : Option Addr, ∃ c12162 : Nat, ∃ x12165 : ByteArray, ∃ x12166 : Int, Kn 151 a_ [(0, .slice A12161 (p0).length c12162), (2, .int .i64 (IntKind.wrap .i64 (1 + (bits .and .i64 p2 3)))), (7, .pointer (some ⟨bx9, 0, none⟩)), (8, .pointer (some ⟨bx25, 0, none⟩)), (9, .pointer (some ⟨bx47, 0, none⟩)), (10, .slice A9945 (l9947).length c9946), (11, .int .i64 x9950), (12, .string x12165), (13, .int .i64 x12166)] ∧ St [] w (fun _ => 0) w_ o12160 ∧ Ft (Bx bx9 56 [.pointer (some ⟨bx9888, 0, none⟩), .int .i64 x9896, .int .i64 x9897, .int .i64 x9898, .int .i64 x9899, .bool x9900, .bool x9901, .bool x9902, .int .i64 x9903, .int .i64 x9904, .int .i64 x9905, .int .i64 x9906, .bool x9907, .bool x9908, .bool x9909, .bool x9910, .int .i64 x9911, .int .i64 x9912, .bool x9913, .string x9914]) w_ o12160 2614 ∧ Ft (RdC encStr A12161 p0) w_ o12160 0 ∧ Ft (Bx bx25 61 [.slice A9915 (l9917).length c9916, .slice A9920 (l9922).length c9921, .slice A9925 (l9927).length c9926]) w_ o12160 2618 ∧ Ft (Bx bx47 34 [.int .i64 x9930, .bool x9931, .bool x9932, .bool x9933, .bool x9934, .int .i64 x9935, .slice A9936 (l9938).length c9937, .string x9941, .int .u8 x9942, .int .i32 x9943, .int .i64 x9944, .slice none 0 0]) w_ o12160 2620 ∧ Ft (Bx bx9888 75 [.int .i64 x9890, .slice A9891 (l9893).length c9892]) w_ o12160 2613 ∧ NOwn dT65 66 A9891 c9892 l9893 w_ o12160 2612 1 ∧ NOwn (dRows ET46) 43 A9915 c9916 l9917 w_ o12160 2615 1 ∧ Ft (Own (encInt .i64) 3 (.slice A9920 (l9922).length c9921) l9922) w_ o12160 2616 ∧ Ft (Own ET46 47 (.slice A9925 (l9927).length c9926) l9927) w_ o12160 2617 ∧ Ft (Own (encInt .i64) 3 (.slice A9936 (l9938).length c9937) l9938) w_ o12160 2619 ∧ Ft (Own encStr 9 (.slice A9945 (l9947).length c9946) l9947) w_ o12160 2621 ∧ Ft (RdC ET109 (some ⟨0, 0, none⟩) glob0) w_ o12160 0 ∧ Ft (RdC ET109 (some ⟨1, 0, none⟩) glob1) w_ o12160 0 ∧ Ft (RdC (encInt .u32) (some ⟨2, 0, none⟩) glob2) w_ o12160 0 ∧ Ft (RdC ET141 (some ⟨3, 0, none⟩) glob3) w_ o12160 0 ∧ (p0).length ≤ c12162 ∧ tidewracktop_TidewrackLines_l17 K p0 x9890 l9893 x9896 x9897 x9898 x9899 x9900 x9901 x9902 x9903 x9904 x9905 x9906 x9907 x9908 x9909 x9910 x9911 x9912 x9913 x9914 l9917 l9922 l9927 x9930 x9931 x9932 x9933 x9934 x9935 l9938 x9941 x9942 x9943 x9944 l9947 x9950 lp11095 j_ x12165 x12166 = some r) (k := K) ⟨(fun b_ => R_124 (o11102 b_)), A9884, c9885, (⟨#[]⟩ : ByteArray), 0, (by exact Kn.pick (ks := [0, 2, 7, 8, 9, 10, 11, 12, 13]) hk rfl), (hs.relab0 R_124 rfl), (f10.relab R_124 rfl), (f9886.relab R_124 rfl), (f26.relab R_124 rfl), (f48.relab R_124 rfl), (f9889.relab R_124 rfl), (f9894.relab R_124 rfl), (f9918.relab R_124 rfl), (f9923.relab R_124 rfl), (f9928.relab R_124 rfl), (f9939.relab R_124 rfl), (f9948.relab R_124 rfl), (fg0.relab R_124 rfl), (fg1.relab R_124 rfl), (fg2.relab R_124 rfl), (fg3.relab R_124 rfl), hc9887, H⟩ (fun _ _ z => z.elim fun _ z => z.elim fun _ z => z.elim fun _ z => z.elim fun _ z => z.elim fun _ z => z.elim fun _ z => z.elim fun _ z => z.elim fun _ z => z.elim fun _ z => z.elim fun _ z => z.elim fun _ z => z.elim fun _ z => z.elim fun _ z => z.elim fun _ z => z.elim fun _ z => z.elim fun _ z => z.elim fun _ z => z.elim fun _ z => z.elim fun _ z => z.elim fun _ z => z.elim fun _ z => z.elim fun _ z => z.elim fun _ z => absurd (show (none : Option Bool) = some r from z) (by simp)) ?_
      refine fun k12201 a w12200 z0 => z0.elim fun o12160 z1 => z1.elim fun A12161 z2 => z2.elim fun c12162 z3 => z3.elim fun x12165 z4 => z4.elim fun x12166 z5 => z5.elim fun hk z6 => z6.elim fun hs z7 => z7.elim fun f10 z8 => z8.elim fun f12163 z9 => z9.elim fun f26 z10 => z10.elim fun f48 z11 => z11.elim fun f9889 z12 => z12.elim fun f9894 z13 => z13.elim fun f9918 z14 => z14.elim fun f9923 z15 => z15.elim fun f9928 z16 => z16.elim fun f9939 z17 => z17.elim fun f9948 z18 => z18.elim fun fg0 z19 => z19.elim fun fg1 z20 => z20.elim fun fg2 z21 => z21.elim fun fg3 z22 => z22.elim fun hc12164 H => ?_
      clear z0 z1 z2 z3 z4 z5 z6 z7 z8 z9 z10 z11 z12 z13 z14 z15 z16 z17 z18 z19 z20 z21 z22
      rw [tidewracktop_TidewrackLines_l17] at H
      obtain ⟨lp12202, hlp12203⟩ : ∃ lp_, lp_ = tidewracktop_TidewrackLines_l17 K p0 x9890 l9893 x9896 x9897 x9898 x9899 x9900 x9901 x9902 x9903 x9904 x9905 x9906 x9907 x9908 x9909 x9910 x9911 x9912 x9913 x9914 l9917 l9922 l9927 x9930 x9931 x9932 x9933 x9934 x9935 l9938 x9941 x9942 x9943 x9944 l9947 x9950 lp11095 k12201 := ⟨_, rfl⟩
      rw [← hlp12203] at H
      refine x_mid (fun a_ w_ => ∃ o12217 : Nat → Nat, ∃ A12218 : Option Addr, ∃ c12219 : Nat, Kn 151 a_ [(0, .slice A12218 (p0).length c12219), (2, .int .i64 (IntKind.wrap .i64 (1 + (bits .and .i64 p2 3)))), (7, .pointer (some ⟨bx9, 0, none⟩)), (8, .pointer (some ⟨bx25, 0, none⟩)), (9, .pointer (some ⟨bx47, 0, none⟩)), (10, .slice A9945 (l9947).length c9946), (11, .int .i64 x9950), (12, .string x12165), (13, .int .i64 x12166)] ∧ St [] w (fun _ => 0) w_ o12217 ∧ Ft (Bx bx9 56 [.pointer (some ⟨bx9888, 0, none⟩), .int .i64 x9896, .int .i64 x9897, .int .i64 x9898, .int .i64 x9899, .bool x9900, .bool x9901, .bool x9902, .int .i64 x9903, .int .i64 x9904, .int .i64 x9905, .int .i64 x9906, .bool x9907, .bool x9908, .bool x9909, .bool x9910, .int .i64 x9911, .int .i64 x9912, .bool x9913, .string x9914]) w_ o12217 2635 ∧ Ft (RdC encStr A12218 p0) w_ o12217 0 ∧ Ft (Bx bx25 61 [.slice A9915 (l9917).length c9916, .slice A9920 (l9922).length c9921, .slice A9925 (l9927).length c9926]) w_ o12217 2639 ∧ Ft (Bx bx47 34 [.int .i64 x9930, .bool x9931, .bool x9932, .bool x9933, .bool x9934, .int .i64 x9935, .slice A9936 (l9938).length c9937, .string x9941, .int .u8 x9942, .int .i32 x9943, .int .i64 x9944, .slice none 0 0]) w_ o12217 2641 ∧ Ft (Bx bx9888 75 [.int .i64 x9890, .slice A9891 (l9893).length c9892]) w_ o12217 2634 ∧ NOwn dT65 66 A9891 c9892 l9893 w_ o12217 2633 1 ∧ NOwn (dRows ET46) 43 A9915 c9916 l9917 w_ o12217 2636 1 ∧ Ft (Own (encInt .i64) 3 (.slice A9920 (l9922).length c9921) l9922) w_ o12217 2637 ∧ Ft (Own ET46 47 (.slice A9925 (l9927).length c9926) l9927) w_ o12217 2638 ∧ Ft (Own (encInt .i64) 3 (.slice A9936 (l9938).length c9937) l9938) w_ o12217 2640 ∧ Ft (Own encStr 9 (.slice A9945 (l9947).length c9946) l9947) w_ o12217 2642 ∧ Ft (RdC ET109 (some ⟨0, 0, none⟩) glob0) w_ o12217 0 ∧ Ft (RdC ET109 (some ⟨1, 0, none⟩) glob1) w_ o12217 0 ∧ Ft (RdC (encInt .u32) (some ⟨2, 0, none⟩) glob2) w_ o12217 0 ∧ Ft (RdC ET141 (some ⟨3, 0, none⟩) glob3) w_ o12217 0 ∧ (p0).length ≤ c12219 ∧ tidewracktop_TidewrackLines_j18 p0 x9950 x12165 x12166 lp12202 = some r) ?_ ?_
      rotate_left
      · refine fun a w12222 z0 => z0.elim fun o12217 z1 => z1.elim fun A12218 z2 => z2.elim fun c12219 z3 => z3.elim fun hk z4 => z4.elim fun hs z5 => z5.elim fun f10 z6 => z6.elim fun f12220 z7 => z7.elim fun f26 z8 => z8.elim fun f48 z9 => z9.elim fun f9889 z10 => z10.elim fun f9894 z11 => z11.elim fun f9918 z12 => z12.elim fun f9923 z13 => z13.elim fun f9928 z14 => z14.elim fun f9939 z15 => z15.elim fun f9948 z16 => z16.elim fun fg0 z17 => z17.elim fun fg1 z18 => z18.elim fun fg2 z19 => z19.elim fun fg3 z20 => z20.elim fun hc12221 H => ?_
        clear z0 z1 z2 z3 z4 z5 z6 z7 z8 z9 z10 z11 z12 z13 z14 z15 z16 z17 z18 z19 z20
        rw [tidewracktop_TidewrackLines_j18] at H
        refine x_seq ?_
        refine wpIn_block ?_
        refine wpIn_region_lit ?_
        obtain ⟨q12223, H⟩ := ifS H
        obtain ⟨ad12224, hAad12224⟩ := RdC.addr f12220.now q12223
        have hk_C := hk
        have f10_C := f10
        have f12220_C := f12220
        have f26_C := f26
        have f48_C := f48
        have f9889_C := f9889
        have f9894_C := f9894
        have f9918_C := f9918
        have f9923_C := f9923
        have f9928_C := f9928
        have f9939_C := f9939
        have f9948_C := f9948
        have fg0_C := fg0
        have fg1_C := fg1
        have fg2_C := fg2
        have fg3_C := fg3
        subst hAad12224
        have hk := hk_C
        clear hk_C
        have f10 := f10_C
        clear f10_C
        have f12220 := f12220_C
        clear f12220_C
        have f26 := f26_C
        clear f26_C
        have f48 := f48_C
        clear f48_C
        have f9889 := f9889_C
        clear f9889_C
        have f9894 := f9894_C
        clear f9894_C
        have f9918 := f9918_C
        clear f9918_C
        have f9923 := f9923_C
        clear f9923_C
        have f9928 := f9928_C
        clear f9928_C
        have f9939 := f9939_C
        clear f9939_C
        have f9948 := f9948_C
        clear f9948_C
        have fg0 := fg0_C
        clear fg0_C
        have fg1 := fg1_C
        clear fg1_C
        have fg2 := fg2_C
        clear fg2_C
        have fg3 := fg3_C
        clear fg3_C
        obtain ⟨q12225, H⟩ := ifS H
        refine x_run tab hk (k := 9) (lv := [.string (rdD (⟨#[]⟩ : ByteArray) p0 x9950)]) (ks := [0, 2, 7, 8, 9, 10, 11, 13, 62, 70]) (e' := [(0, .slice (some ad12224) (p0).length c12219), (2, .int .i64 (IntKind.wrap .i64 (1 + (bits .and .i64 p2 3)))), (7, .pointer (some ⟨bx9, 0, none⟩)), (8, .pointer (some ⟨bx25, 0, none⟩)), (9, .pointer (some ⟨bx47, 0, none⟩)), (10, .slice A9945 (l9947).length c9946), (11, .int .i64 x9950), (13, .int .i64 x12166), (62, .string x12165), (70, .int .u8 (IntKind.wrap .u8 (33 + (bits .and .u8 (bt (rdD (⟨#[]⟩ : ByteArray) p0 x9950) x12166) 63))))]) rfl ⟨q12223, (load1 tab rfl (RdC.at0 (E := encStr) (d := (⟨#[]⟩ : ByteArray)) (i := x9950) f12220.now q12223 rfl)), q12225, trivial⟩ fun a hk => ?_
        refine x_op hk rfl ?_
        refine op_slice (o := o12217) tab hk (vs := [.int .u8 (IntKind.wrap .u8 (33 + (bits .and .u8 (bt (rdD (⟨#[]⟩ : ByteArray) p0 x9950) x12166) 63)))]) (cs := [.int .u8 (IntKind.wrap .u8 (33 + (bits .and .u8 (bt (rdD (⟨#[]⟩ : ByteArray) p0 x9950) x12166) 63)))]) rfl rfl rfl rfl rfl rfl rfl rfl rfl 2643 fun bx12229 w12226 o12227 st12228 f12230 => ?_
        replace f10 := f10.st st12228 (by decide)
        replace f12220 := f12220.st st12228 (by decide)
        replace f26 := f26.st st12228 (by decide)
        replace f48 := f48.st st12228 (by decide)
        replace f9889 := f9889.st st12228 (by decide)
        replace f9894 := f9894.st st12228 (by decide)
        replace f9918 := f9918.st st12228 (by decide)
        replace f9923 := f9923.st st12228 (by decide)
        replace f9928 := f9928.st st12228 (by decide)
        replace f9939 := f9939.st st12228 (by decide)
        replace f9948 := f9948.st st12228 (by decide)
        replace fg0 := fg0.st st12228 (by decide)
        replace fg1 := fg1.st st12228 (by decide)
        replace fg2 := fg2.st st12228 (by decide)
        replace fg3 := fg3.st st12228 (by decide)
        replace hs := hs.loc0 st12228 (by decide)
        have f12231 : Ft (Own (encInt .u8) 5 (.slice (some ⟨bx12229, 0, none⟩) (([(IntKind.wrap .u8 (33 + (bits .and .u8 (bt (rdD (⟨#[]⟩ : ByteArray) p0 x9950) x12166) 63)))] : List Int)).length 1) ([(IntKind.wrap .u8 (33 + (bits .and .u8 (bt (rdD (⟨#[]⟩ : ByteArray) p0 x9950) x12166) 63)))] : List Int)) w12226 o12227 2643 := f12230.imp fun _ h_ => Own.of_box h_ rfl (by simp)
        have hk := hk.put 71 (.slice (some ⟨bx12229, 0, none⟩) (([(IntKind.wrap .u8 (33 + (bits .and .u8 (bt (rdD (⟨#[]⟩ : ByteArray) p0 x9950) x12166) 63)))] : List Int)).length 1) rfl
        obtain ⟨q12232, H⟩ := ifS H
        refine x_run tab hk (k := 3) (lv := [.string (strOfNums ([(IntKind.wrap .u8 (33 + (bits .and .u8 (bt (rdD (⟨#[]⟩ : ByteArray) p0 x9950) x12166) 63)))] : List Int))]) (ks := [0, 2, 7, 8, 9, 10, 11, 12, 13]) (e' := [(0, .slice (some ad12224) (p0).length c12219), (2, .int .i64 (IntKind.wrap .i64 (1 + (bits .and .i64 p2 3)))), (7, .pointer (some ⟨bx9, 0, none⟩)), (8, .pointer (some ⟨bx25, 0, none⟩)), (9, .pointer (some ⟨bx47, 0, none⟩)), (10, .slice A9945 (l9947).length c9946), (11, .int .i64 x9950), (12, .string (x12165 ++ (strOfNums ([(IntKind.wrap .u8 (33 + (bits .and .u8 (bt (rdD (⟨#[]⟩ : ByteArray) p0 x9950) x12166) 63)))] : List Int)))), (13, .int .i64 x12166)]) rfl ⟨(ask_str tab rfl rfl rfl rfl (Own.rd f12231.now) (Own.plain f12231.now _ _ _ rfl)), q12232, trivial⟩ fun a hk => ?_
        refine wpListIn_nil ?_
        refine blk_n ?_
        refine then_n ?_
        refine wpIn_region_lit ?_
        refine x_run tab hk (k := 3) (lv := []) (ks := [0, 2, 7, 8, 9, 10, 11, 12, 13]) (e' := [(0, .slice (some ad12224) (p0).length c12219), (2, .int .i64 (IntKind.wrap .i64 (1 + (bits .and .i64 p2 3)))), (7, .pointer (some ⟨bx9, 0, none⟩)), (8, .pointer (some ⟨bx25, 0, none⟩)), (9, .pointer (some ⟨bx47, 0, none⟩)), (10, .slice A9945 (l9947).length c9946), (11, .int .i64 x9950), (12, .string (x12165 ++ (strOfNums ([(IntKind.wrap .u8 (33 + (bits .and .u8 (bt (rdD (⟨#[]⟩ : ByteArray) p0 x9950) x12166) 63)))] : List Int)))), (13, .int .i64 (IntKind.wrap .i64 (x12166 + 1)))]) rfl trivial fun a hk => ?_
        refine wpListIn_nil ?_
        refine then_n ?_
        exact ⟨k12201, Nat.le_refl _, (fun b_ => R_125 (o12227 b_)), (some ad12224), c12219, (x12165 ++ (strOfNums ([(IntKind.wrap .u8 (33 + (bits .and .u8 (bt (rdD (⟨#[]⟩ : ByteArray) p0 x9950) x12166) 63)))] : List Int))), (IntKind.wrap .i64 (x12166 + 1)), (by exact Kn.pick (ks := [0, 2, 7, 8, 9, 10, 11, 12, 13]) hk rfl), (hs.relab0 R_125 rfl), (f10.relab R_125 rfl), (f12220.relab R_125 rfl), (f26.relab R_125 rfl), (f48.relab R_125 rfl), (f9889.relab R_125 rfl), (f9894.relab R_125 rfl), (f9918.relab R_125 rfl), (f9923.relab R_125 rfl), (f9928.relab R_125 rfl), (f9939.relab R_125 rfl), (f9948.relab R_125 rfl), (fg0.relab R_125 rfl), (fg1.relab R_125 rfl), (fg2.relab R_125 rfl), (fg3.relab R_125 rfl), hc12221, (hlp12203 ▸ H)⟩
      refine x_seq ?_
      refine wpIn_region_lit ?_
      obtain ⟨q12233, H⟩ := ifS H
      obtain ⟨ad12234, hAad12234⟩ := RdC.addr f12163.now q12233
      have hk_C := hk
      have f10_C := f10
      have f12163_C := f12163
      have f26_C := f26
      have f48_C := f48
      have f9889_C := f9889
      have f9894_C := f9894
      have f9918_C := f9918
      have f9923_C := f9923
      have f9928_C := f9928
      have f9939_C := f9939
      have f9948_C := f9948
      have fg0_C := fg0
      have fg1_C := fg1
      have fg2_C := fg2
      have fg3_C := fg3
      subst hAad12234
      have hk := hk_C
      clear hk_C
      have f10 := f10_C
      clear f10_C
      have f12163 := f12163_C
      clear f12163_C
      have f26 := f26_C
      clear f26_C
      have f48 := f48_C
      clear f48_C
      have f9889 := f9889_C
      clear f9889_C
      have f9894 := f9894_C
      clear f9894_C
      have f9918 := f9918_C
      clear f9918_C
      have f9923 := f9923_C
      clear f9923_C
      have f9928 := f9928_C
      clear f9928_C
      have f9939 := f9939_C
      clear f9939_C
      have f9948 := f9948_C
      clear f9948_C
      have fg0 := fg0_C
      clear fg0_C
      have fg1 := fg1_C
      clear fg1_C
      have fg2 := fg2_C
      clear fg2_C
      have fg3 := fg3_C
      clear fg3_C
      refine x_run tab hk (k := 8) (lv := [.string (rdD (⟨#[]⟩ : ByteArray) p0 x9950)]) (ks := [0, 2, 7, 8, 9, 10, 11, 12, 13, 56]) (e' := [(0, .slice (some ad12234) (p0).length c12162), (2, .int .i64 (IntKind.wrap .i64 (1 + (bits .and .i64 p2 3)))), (7, .pointer (some ⟨bx9, 0, none⟩)), (8, .pointer (some ⟨bx25, 0, none⟩)), (9, .pointer (some ⟨bx47, 0, none⟩)), (10, .slice A9945 (l9947).length c9946), (11, .int .i64 x9950), (12, .string x12165), (13, .int .i64 x12166), (56, .bool (decide (x12166 < (((rdD (⟨#[]⟩ : ByteArray) p0 x9950)).size : Int))))]) rfl ⟨q12233, (load1 tab rfl (RdC.at0 (E := encStr) (d := (⟨#[]⟩ : ByteArray)) (i := x9950) f12163.now q12233 rfl)), trivial⟩ fun a hk => ?_
      cases b12235 : (decide (x12166 < (((rdD (⟨#[]⟩ : ByteArray) p0 x9950)).size : Int)))
      · rw [b12235] at hk H
        replace H := bifF H
        refine x_run tab hk (k := 3) (lv := []) (ks := [0, 2, 7, 8, 9, 10, 11, 12, 13, 59]) (e' := [(0, .slice (some ad12234) (p0).length c12162), (2, .int .i64 (IntKind.wrap .i64 (1 + (bits .and .i64 p2 3)))), (7, .pointer (some ⟨bx9, 0, none⟩)), (8, .pointer (some ⟨bx25, 0, none⟩)), (9, .pointer (some ⟨bx47, 0, none⟩)), (10, .slice A9945 (l9947).length c9946), (11, .int .i64 x9950), (12, .string x12165), (13, .int .i64 x12166), (59, .bool false)]) rfl trivial fun a hk => ?_
        refine wpListIn_nil ?_
        refine then_n ?_
        refine x_if hk (b := false) rfl ?_
        refine (show Code.wpIn _ _ _ _ _ _ _ from ?_)
        refine wpIn_exit ?_
        refine then_x ?_
        refine then_x ?_
        refine blk_x ?_
        refine then_n ?_
        exact ⟨(fun b_ => R_126 (o12160 b_)), (some ad12234), c12162, x12165, (by exact Kn.pick (ks := [0, 2, 7, 8, 9, 10, 11, 12]) hk rfl), (hs.relab0 R_126 rfl), (f10.relab R_126 rfl), (f12163.relab R_126 rfl), (f26.relab R_126 rfl), (f48.relab R_126 rfl), (f9889.relab R_126 rfl), (f9894.relab R_126 rfl), (f9918.relab R_126 rfl), (f9923.relab R_126 rfl), (f9928.relab R_126 rfl), (f9939.relab R_126 rfl), (f9948.relab R_126 rfl), (fg0.relab R_126 rfl), (fg1.relab R_126 rfl), (fg2.relab R_126 rfl), (fg3.relab R_126 rfl), hc12164, H⟩
      · rw [b12235] at hk H
        replace H := bifT H
        refine x_run tab hk (k := 3) (lv := []) (ks := [0, 2, 7, 8, 9, 10, 11, 12, 13, 59]) (e' := [(0, .slice (some ad12234) (p0).length c12162), (2, .int .i64 (IntKind.wrap .i64 (1 + (bits .and .i64 p2 3)))), (7, .pointer (some ⟨bx9, 0, none⟩)), (8, .pointer (some ⟨bx25, 0, none⟩)), (9, .pointer (some ⟨bx47, 0, none⟩)), (10, .slice A9945 (l9947).length c9946), (11, .int .i64 x9950), (12, .string x12165), (13, .int .i64 x12166), (59, .bool (decide (x12166 < (40 : Int))))]) rfl trivial fun a hk => ?_
        refine wpListIn_nil ?_
        refine then_n ?_
        cases b12236 : (decide (x12166 < (40 : Int)))
        · rw [b12236] at hk H
          replace H := bifF H
          refine x_if hk (b := false) rfl ?_
          refine (show Code.wpIn _ _ _ _ _ _ _ from ?_)
          refine wpIn_exit ?_
          refine then_x ?_
          refine then_x ?_
          refine blk_x ?_
          refine then_n ?_
          exact ⟨(fun b_ => R_126 (o12160 b_)), (some ad12234), c12162, x12165, (by exact Kn.pick (ks := [0, 2, 7, 8, 9, 10, 11, 12]) hk rfl), (hs.relab0 R_126 rfl), (f10.relab R_126 rfl), (f12163.relab R_126 rfl), (f26.relab R_126 rfl), (f48.relab R_126 rfl), (f9889.relab R_126 rfl), (f9894.relab R_126 rfl), (f9918.relab R_126 rfl), (f9923.relab R_126 rfl), (f9928.relab R_126 rfl), (f9939.relab R_126 rfl), (f9948.relab R_126 rfl), (fg0.relab R_126 rfl), (fg1.relab R_126 rfl), (fg2.relab R_126 rfl), (fg3.relab R_126 rfl), hc12164, H⟩
        · rw [b12236] at hk H
          replace H := bifT H
          refine x_if hk (b := true) rfl ?_
          refine (show Code.wpIn _ _ _ _ _ _ _ from ?_)
          refine wpIn_skip ?_
          refine then_n ?_
          exact ⟨(fun b_ => R_127 (o12160 b_)), (some ad12234), c12162, (by exact Kn.pick (ks := [0, 2, 7, 8, 9, 10, 11, 12, 13]) hk rfl), (hs.relab0 R_127 rfl), (f10.relab R_127 rfl), (f12163.relab R_127 rfl), (f26.relab R_127 rfl), (f48.relab R_127 rfl), (f9889.relab R_127 rfl), (f9894.relab R_127 rfl), (f9918.relab R_127 rfl), (f9923.relab R_127 rfl), (f9928.relab R_127 rfl), (f9939.relab R_127 rfl), (f9948.relab R_127 rfl), (fg0.relab R_127 rfl), (fg1.relab R_127 rfl), (fg2.relab R_127 rfl), (fg3.relab R_127 rfl), hc12164, H⟩
    refine x_seq ?_
    refine wpIn_region_lit ?_
    refine x_run tab hk (k := 5) (lv := []) (ks := [0, 2, 7, 8, 9, 10, 11, 43]) (e' := [(0, .slice A9884 (p0).length c9885), (2, .int .i64 (IntKind.wrap .i64 (1 + (bits .and .i64 p2 3)))), (7, .pointer (some ⟨bx9, 0, none⟩)), (8, .pointer (some ⟨bx25, 0, none⟩)), (9, .pointer (some ⟨bx47, 0, none⟩)), (10, .slice A9945 (l9947).length c9946), (11, .int .i64 x9950), (43, .bool (decide (x9950 < ((p0).length : Int))))]) rfl trivial fun a hk => ?_
    cases b12237 : (decide (x9950 < ((p0).length : Int)))
    · rw [b12237] at hk H
      replace H := bifF H
      refine x_run tab hk (k := 3) (lv := []) (ks := [0, 2, 7, 8, 9, 10, 11, 46]) (e' := [(0, .slice A9884 (p0).length c9885), (2, .int .i64 (IntKind.wrap .i64 (1 + (bits .and .i64 p2 3)))), (7, .pointer (some ⟨bx9, 0, none⟩)), (8, .pointer (some ⟨bx25, 0, none⟩)), (9, .pointer (some ⟨bx47, 0, none⟩)), (10, .slice A9945 (l9947).length c9946), (11, .int .i64 x9950), (46, .bool false)]) rfl trivial fun a hk => ?_
      refine wpListIn_nil ?_
      refine then_n ?_
      refine x_if hk (b := false) rfl ?_
      refine (show Code.wpIn _ _ _ _ _ _ _ from ?_)
      refine wpIn_exit ?_
      refine then_x ?_
      refine then_x ?_
      refine blk_x ?_
      refine then_n ?_
      exact ⟨(fun b_ => R_128 (o9883 b_)), bx9888, x9890, A9891, c9892, l9893, x9896, x9897, x9898, x9899, x9900, x9901, x9902, x9903, x9904, x9905, x9906, x9907, x9908, x9909, x9910, x9911, x9912, x9913, x9914, A9915, c9916, l9917, A9920, c9921, l9922, A9925, c9926, l9927, x9930, x9931, x9932, x9933, x9934, x9935, A9936, c9937, l9938, x9941, x9942, x9943, x9944, A9945, c9946, l9947, (by exact Kn.pick (ks := [2, 7, 8, 9, 10]) hk rfl), (hs.relab0 R_128 rfl), (f10.relab R_128 rfl), (f26.relab R_128 rfl), (f9889.relab R_128 rfl), (f9894.relab R_128 rfl), (f9918.relab R_128 rfl), (f9923.relab R_128 rfl), (f9928.relab R_128 rfl), (f9939.relab R_128 rfl), (f9948.relab R_128 rfl), (f48.relab R_128 rfl), (fg0.relab R_128 rfl), (fg1.relab R_128 rfl), (fg2.relab R_128 rfl), (fg3.relab R_128 rfl), hc9895, hc9919, hc9924, hc9929, hc9940, hc9949, H⟩
    · rw [b12237] at hk H
      replace H := bifT H
      refine x_run tab hk (k := 3) (lv := []) (ks := [0, 2, 7, 8, 9, 10, 11, 46]) (e' := [(0, .slice A9884 (p0).length c9885), (2, .int .i64 (IntKind.wrap .i64 (1 + (bits .and .i64 p2 3)))), (7, .pointer (some ⟨bx9, 0, none⟩)), (8, .pointer (some ⟨bx25, 0, none⟩)), (9, .pointer (some ⟨bx47, 0, none⟩)), (10, .slice A9945 (l9947).length c9946), (11, .int .i64 x9950), (46, .bool (decide (x9950 < (12 : Int))))]) rfl trivial fun a hk => ?_
      refine wpListIn_nil ?_
      refine then_n ?_
      cases b12238 : (decide (x9950 < (12 : Int)))
      · rw [b12238] at hk H
        replace H := bifF H
        refine x_if hk (b := false) rfl ?_
        refine (show Code.wpIn _ _ _ _ _ _ _ from ?_)
        refine wpIn_exit ?_
        refine then_x ?_
        refine then_x ?_
        refine blk_x ?_
        refine then_n ?_
        exact ⟨(fun b_ => R_128 (o9883 b_)), bx9888, x9890, A9891, c9892, l9893, x9896, x9897, x9898, x9899, x9900, x9901, x9902, x9903, x9904, x9905, x9906, x9907, x9908, x9909, x9910, x9911, x9912, x9913, x9914, A9915, c9916, l9917, A9920, c9921, l9922, A9925, c9926, l9927, x9930, x9931, x9932, x9933, x9934, x9935, A9936, c9937, l9938, x9941, x9942, x9943, x9944, A9945, c9946, l9947, (by exact Kn.pick (ks := [2, 7, 8, 9, 10]) hk rfl), (hs.relab0 R_128 rfl), (f10.relab R_128 rfl), (f26.relab R_128 rfl), (f9889.relab R_128 rfl), (f9894.relab R_128 rfl), (f9918.relab R_128 rfl), (f9923.relab R_128 rfl), (f9928.relab R_128 rfl), (f9939.relab R_128 rfl), (f9948.relab R_128 rfl), (f48.relab R_128 rfl), (fg0.relab R_128 rfl), (fg1.relab R_128 rfl), (fg2.relab R_128 rfl), (fg3.relab R_128 rfl), hc9895, hc9919, hc9924, hc9929, hc9940, hc9949, H⟩
      · rw [b12238] at hk H
        replace H := bifT H
        refine x_if hk (b := true) rfl ?_
        refine (show Code.wpIn _ _ _ _ _ _ _ from ?_)
        refine wpIn_skip ?_
        refine then_n ?_
        exact ⟨(fun b_ => R_129 (o9883 b_)), (by exact Kn.pick (ks := [0, 2, 7, 8, 9, 10, 11]) hk rfl), (hs.relab0 R_129 rfl), (f10.relab R_129 rfl), (f26.relab R_129 rfl), (f48.relab R_129 rfl), (f9886.relab R_129 rfl), (f9889.relab R_129 rfl), (f9894.relab R_129 rfl), (f9918.relab R_129 rfl), (f9923.relab R_129 rfl), (f9928.relab R_129 rfl), (f9939.relab R_129 rfl), (f9948.relab R_129 rfl), (fg0.relab R_129 rfl), (fg1.relab R_129 rfl), (fg2.relab R_129 rfl), (fg3.relab R_129 rfl), H⟩
  refine x_seq ?_
  refine wpIn_region_lit ?_
  refine x_run tab hk (k := 6) (lv := []) (ks := [0, 2, 7, 8, 38]) (e' := [(0, .slice Ap0 (p0).length cp0), (2, .int .i64 (IntKind.wrap .i64 (1 + (bits .and .i64 p2 3)))), (7, .pointer (some ⟨bx9, 0, none⟩)), (8, .pointer (some ⟨bx25, 0, none⟩)), (38, .bool false)]) rfl trivial fun a hk => ?_
  refine wpListIn_nil ?_
  refine then_n ?_
  refine x_if hk (b := false) rfl ?_
  refine (show Code.wpIn _ _ _ _ _ _ _ from ?_)
  refine wpIn_skip ?_
  refine then_n ?_
  exact ⟨(fun b_ => R_130 (o23 b_)), (by exact Kn.pick (ks := [0, 2, 7, 8]) hk rfl), (hs.relab0 R_130 rfl), (f10.relab R_130 rfl), (f12.relab R_130 rfl), (f15.relab R_130 rfl), (f26.relab R_130 rfl), (f29.relab R_130 rfl), (f33.relab R_130 rfl), (f37.relab R_130 rfl), (f900000.relab R_130 rfl), (fg0.relab R_130 rfl), (fg1.relab R_130 rfl), (fg2.relab R_130 rfl), (fg3.relab R_130 rfl), H⟩

end Go.Proofs.YtpciioffkjpieaaGreatDoor
