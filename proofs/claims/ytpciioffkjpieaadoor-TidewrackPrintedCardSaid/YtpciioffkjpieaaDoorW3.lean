/- Walks, printed by an own program: the machine's calls compute the plain functions. -/
import Derived.Test.YtpciioffkjpieaaDoorW2
set_option linter.unusedVariables false
set_option linter.unusedSimpArgs false
namespace Go.Proofs.YtpciioffkjpieaaDoor
open Go Go.Proofs.XC
/-! (*tidewrack/seq.Parser).Feed -/
theorem seq_Parser_Feed_calls (K : Nat) (bp0 : Nat) (Ap0_0 : Option Addr) (cp0_0 : Nat) (Ap0_1 : Option Addr) (cp0_1 : Nat) (p0 : T47) (p1 : ByteArray) (w : World) (o : Nat → Nat) (LF : Nat) (Lg3 : Nat) (hg3 : Ft (RdC ET192 (some ⟨3, 0, none⟩) glob3) w o Lg3) (Lp0 : Nat) (hp0 : Ft (Bx bp0 48 [.int .i64 p0.state, .bool p0.order_private_, .bool p0.order_wrong, .bool p0.order_any, .bool p0.order_some, .int .i64 p0.order_n, .slice Ap0_0 (p0.order_nums).length cp0_0, .string p0.text, .int .u8 p0.runes_Lead, .int .i32 p0.runes_Rune, .int .i64 p0.runes_Need, .slice Ap0_1 (p0.out).length cp0_1]) w o Lp0) (Lp0_0 : Nat) (hp0_0 : CO (encInt .i64) 3 Ap0_0 cp0_0 p0.order_nums (p0.state == (3 : Int)) w o Lp0_0 LF) (hcp0_0 : (p0.order_nums).length ≤ cp0_0) (Lp0_1 : Nat) (hp0_1 : NOwn dT50 51 Ap0_1 cp0_1 p0.out w o Lp0_1 LF) (hcp0_1 : (p0.out).length ≤ cp0_1) (hd0 : ([LF, Lp0, Lp0_0, Lp0_1] : List Nat).Nodup) (hd1 : Lg3 ∉ [LF, Lp0, Lp0_0, Lp0_1]) (R0 : Nat) (r : (List T50) × T47) (H : seq_Parser_Feed K p0 p1 = some r) :
    Calls Tryd.prog 17 #[.pointer (some ⟨bp0, 0, none⟩), .string p1] w (Ret fun v_ w' => ∃ o' : Nat → Nat, ∃ A0 : Option Addr, ∃ c0 : Nat, ∃ A1 : Option Addr, ∃ c1 : Nat, v_ = .slice A0 (r.1).length c0 ∧ St [Lp0, Lp0_0, Lp0_1] w o w' o' ∧ NOwn dT50 51 A0 c0 r.1 w' o' R0 LF ∧ (r.1).length ≤ c0 ∧ Ft (Bx bp0 48 [.int .i64 r.2.state, .bool r.2.order_private_, .bool r.2.order_wrong, .bool r.2.order_any, .bool r.2.order_some, .int .i64 r.2.order_n, .slice A1 (r.2.order_nums).length c1, .string r.2.text, .int .u8 r.2.runes_Lead, .int .i32 r.2.runes_Rune, .int .i64 r.2.runes_Need, .slice none 0 0]) w' o' Lp0 ∧ CO (encInt .i64) 3 A1 c1 (r.2.order_nums) (r.2.state == (3 : Int)) w' o' Lp0_0 LF ∧ (r.2.order_nums).length ≤ c1 ∧ NOwn dT50 51 none 0 r.2.out w' o' Lp0_1 LF ∧ (r.2.out).length ≤ 0) := by
  refine x_enter (vs := [.pointer (some ⟨bp0, 0, none⟩), .string p1]) Tryd.func17 rfl rfl rfl fun a hk => ?_
  obtain ⟨oi, hs0, h0, h1, hob, hoz, hoa⟩ := St.startM2 w o (m := 4) hd0 rfl
  have hs := hs0 [2, 3, 4]
  have fg3 := h0 _ _ hd1 hg3
  have f900000 := hp0_0.conv (fun _ h_ => h1 2 3 h_ rfl rfl) (fun _ h_ => h1 0 1 h_ rfl rfl)
  have f900001 := hp0_1.conv (fun _ h_ => h1 3 4 h_ rfl rfl) (fun _ h_ => h1 0 1 h_ rfl rfl)
  have f900019 := h1 1 2 hp0 rfl rfl
  clear h0 h1 hs0
  rw [seq_Parser_Feed] at H
  refine x_seq ?_
  refine wpIn_region_lit ?_
  refine x_run tab hk (k := 1) (lv := []) (ks := [0, 1]) (e' := [(0, .pointer (some ⟨bp0, 0, none⟩)), (1, .string p1)]) rfl trivial fun a hk => ?_
  refine wpListIn_nil ?_
  refine then_n ?_
  refine x_mid (fun a_ w_ => ∃ o112 : Nat → Nat, ∃ x113 : Int, ∃ x114 : Bool, ∃ x115 : Bool, ∃ x116 : Bool, ∃ x117 : Bool, ∃ x118 : Int, ∃ A119 : Option Addr, ∃ c120 : Nat, ∃ l121 : List Int, ∃ x124 : ByteArray, ∃ x125 : Int, ∃ x126 : Int, ∃ x127 : Int, ∃ A128 : Option Addr, ∃ c129 : Nat, ∃ l130 : List T50, Kn 26 a_ [(0, .pointer (some ⟨bp0, 0, none⟩))] ∧ St [2, 3, 4] w oi w_ o112 ∧ CO (encInt .i64) 3 A119 c120 l121 (x113 == (3 : Int)) w_ o112 3 1 ∧ NOwn dT50 51 A128 c129 l130 w_ o112 4 1 ∧ Ft (Bx bp0 48 [.int .i64 x113, .bool x114, .bool x115, .bool x116, .bool x117, .int .i64 x118, .slice A119 (l121).length c120, .string x124, .int .u8 x125, .int .i32 x126, .int .i64 x127, .slice A128 (l130).length c129]) w_ o112 2 ∧ Ft (RdC ET192 (some ⟨3, 0, none⟩) glob3) w_ o112 0 ∧ (l121).length ≤ c120 ∧ (l130).length ≤ c129 ∧ seq_Parser_Feed_j1 x113 x114 x115 x116 x117 x118 l121 x124 x125 x126 x127 l130 = some r) ?_ ?_
  rotate_left
  · rintro a w133 ⟨o112, x113, x114, x115, x116, x117, x118, A119, c120, l121, x124, x125, x126, x127, A128, c129, l130, hk, hs, f122, f131, f900019, fg3, hc123, hc132, H⟩
    rw [seq_Parser_Feed_j1] at H
    refine x_seq ?_
    refine wpIn_region_lit ?_
    refine x_run tab hk (k := 5) (lv := [.slice A128 (l130).length c129]) (ks := [0, 6]) (e' := [(0, .pointer (some ⟨bp0, 0, none⟩)), (6, .slice A128 (l130).length c129)]) rfl ⟨(load1 tab rfl ((Bx.cell f900019.now 11).trans rfl)), trivial⟩ fun a hk => ?_
    refine wpListIn_nil ?_
    refine then_n ?_
    refine x_seq ?_
    refine wpIn_region_lit ?_
    refine x_run tab hk (k := 3) (lv := []) (ks := [6, 24]) (e' := [(6, .slice A128 (l130).length c129), (24, .pointer (some ((⟨bp0, 0, none⟩ : Addr).add 11)))]) rfl trivial fun a hk => ?_
    refine x_op hk rfl ?_
    refine op_store tab hk (t := 46) (v := .slice none 0 0) (b := bp0) (k := 11) (cs' := [.int .i64 x113, .bool x114, .bool x115, .bool x116, .bool x117, .int .i64 x118, .slice A119 (l121).length c120, .string x124, .int .u8 x125, .int .i32 x126, .int .i64 x127, .slice none 0 0]) rfl rfl rfl rfl rfl rfl f900019 rfl rfl fun w134 o135 st136 f900019_ => ?_
    replace f122 := f122.st st136 (by decide)
    replace f131 := f131.st st136 (by decide)
    replace fg3 := fg3.st st136 (by decide)
    replace hs := hs.locQ st136 hob rfl
    replace f900019 := f900019_
    refine wpListIn_nil ?_
    refine then_n ?_
    refine x_seq ?_
    refine wpIn_region_lit ?_
    refine x_run tab hk (k := 2) (lv := []) (ks := [4]) (e' := [(4, .slice A128 (l130).length c129)]) rfl trivial fun a hk => ?_
    refine wpListIn_nil ?_
    refine then_n ?_
    refine wpIn_ret ?_
    obtain rfl := Option.some.inj H
    exact x_retG hk (rs := [.tmp 4]) (vs := [.slice A128 (l130).length c129]) rfl ⟨rfl, trivial⟩ ⟨cl w oi o [2, 3, 4] (fun l_ => if l_ = 1 then LF else if l_ = 2 then Lp0 else if l_ = 3 then Lp0_0 else if l_ = 4 then R0 else 0) o135, A128, c129, A119, c120, rfl, hs.closeF (Lm := [Lp0, Lp0_0, Lp0_1]) (Sh := []) hoa rfl (fun l_ => if l_ = 1 then LF else if l_ = 2 then Lp0 else if l_ = 3 then Lp0_0 else if l_ = 4 then R0 else 0), f131.conv (fun _ h_ => hs.closeMM_ft (o := o) (ρ := fun l_ => if l_ = 1 then LF else if l_ = 2 then Lp0 else if l_ = 3 then Lp0_0 else if l_ = 4 then R0 else 0) h_ (by decide) rfl) (fun _ h_ => hs.closeM_ft (o := o) (ρ := fun l_ => if l_ = 1 then LF else if l_ = 2 then Lp0 else if l_ = 3 then Lp0_0 else if l_ = 4 then R0 else 0) h_ (lab_at hoa (i := 0) rfl) rfl), hc132, hs.closeM_ft (o := o) (ρ := fun l_ => if l_ = 1 then LF else if l_ = 2 then Lp0 else if l_ = 3 then Lp0_0 else if l_ = 4 then R0 else 0) f900019 (lab_at hoa (i := 1) rfl) rfl, f122.conv (fun _ h_ => hs.closeM_ft (o := o) (ρ := fun l_ => if l_ = 1 then LF else if l_ = 2 then Lp0 else if l_ = 3 then Lp0_0 else if l_ = 4 then R0 else 0) h_ (lab_at hoa (i := 2) rfl) rfl) (fun _ h_ => hs.closeM_ft (o := o) (ρ := fun l_ => if l_ = 1 then LF else if l_ = 2 then Lp0 else if l_ = 3 then Lp0_0 else if l_ = 4 then R0 else 0) h_ (lab_at hoa (i := 0) rfl) rfl), hc123, (NOwn.nil _ _ _ _ _ _), (Nat.le_refl _)⟩
  refine x_seq ?_
  refine wpIn_region_lit ?_
  refine x_run tab hk (k := 3) (lv := []) (ks := [0, 1, 8, 9]) (e' := [(0, .pointer (some ⟨bp0, 0, none⟩)), (1, .string p1), (8, .int .i64 ((p1).size : Int)), (9, .int .i64 0)]) rfl trivial fun a hk => ?_
  refine wpListIn_nil ?_
  refine then_n ?_
  refine wpIn_block ?_
  refine x_loop (fun j_ a_ w_ => ∃ o159 : Nat → Nat, ∃ x160 : Int, ∃ x161 : Bool, ∃ x162 : Bool, ∃ x163 : Bool, ∃ x164 : Bool, ∃ x165 : Int, ∃ A166 : Option Addr, ∃ c167 : Nat, ∃ l168 : List Int, ∃ x171 : ByteArray, ∃ x172 : Int, ∃ x173 : Int, ∃ x174 : Int, ∃ A175 : Option Addr, ∃ c176 : Nat, ∃ l177 : List T50, ∃ x180 : Int, Kn 26 a_ [(0, .pointer (some ⟨bp0, 0, none⟩)), (1, .string p1), (8, .int .i64 ((p1).size : Int)), (9, .int .i64 x180)] ∧ St [2, 3, 4] w oi w_ o159 ∧ CO (encInt .i64) 3 A166 c167 l168 (x160 == (3 : Int)) w_ o159 3 1 ∧ NOwn dT50 51 A175 c176 l177 w_ o159 4 1 ∧ Ft (Bx bp0 48 [.int .i64 x160, .bool x161, .bool x162, .bool x163, .bool x164, .int .i64 x165, .slice A166 (l168).length c167, .string x171, .int .u8 x172, .int .i32 x173, .int .i64 x174, .slice A175 (l177).length c176]) w_ o159 2 ∧ Ft (RdC ET192 (some ⟨3, 0, none⟩) glob3) w_ o159 0 ∧ (l168).length ≤ c167 ∧ (l177).length ≤ c176 ∧ seq_Parser_Feed_l2 K p1 j_ x160 x161 x162 x163 x164 x165 l168 x171 x172 x173 x174 l177 x180 = some r) (k := K) ⟨oi, p0.state, p0.order_private_, p0.order_wrong, p0.order_any, p0.order_some, p0.order_n, Ap0_0, cp0_0, p0.order_nums, p0.text, p0.runes_Lead, p0.runes_Rune, p0.runes_Need, Ap0_1, cp0_1, p0.out, 0, (by exact Kn.pick (ks := [0, 1, 8, 9]) hk rfl), hs, f900000, f900001, f900019, fg3, hcp0_0, hcp0_1, H⟩ (by rintro _ _ ⟨_, _, _, _, _, _, _, _, _, _, _, _, _, _, _, _, _, _, _, _, _, _, _, _, _, _, H_⟩; exact absurd (show (none : Option ((List T50) × T47)) = some r from H_) (by simp)) ?_
  rintro k201 a w200 ⟨o159, x160, x161, x162, x163, x164, x165, A166, c167, l168, x171, x172, x173, x174, A175, c176, l177, x180, hk, hs, f169, f178, f900019, fg3, hc170, hc179, H⟩
  rw [seq_Parser_Feed_l2] at H
  obtain ⟨lp202, hlp203⟩ : ∃ lp_, lp_ = seq_Parser_Feed_l2 K p1 k201 := ⟨_, rfl⟩
  rw [← hlp203] at H
  refine x_seq ?_
  refine wpIn_region_lit ?_
  refine x_run tab hk (k := 1) (lv := []) (ks := [0, 1, 8, 9, 10]) (e' := [(0, .pointer (some ⟨bp0, 0, none⟩)), (1, .string p1), (8, .int .i64 ((p1).size : Int)), (9, .int .i64 x180), (10, .bool (decide (x180 < ((p1).size : Int))))]) rfl trivial fun a hk => ?_
  refine wpListIn_nil ?_
  refine then_n ?_
  refine x_seq ?_
  cases b204 : (decide (x180 < ((p1).size : Int)))
  · rw [b204] at hk H
    replace H := bifF H
    refine x_if hk (b := false) rfl ?_
    refine (show Code.wpIn _ _ _ _ _ _ _ from ?_)
    refine wpIn_exit ?_
    refine then_x ?_
    refine then_x ?_
    refine blk_x ?_
    refine then_n ?_
    exact ⟨o159, x160, x161, x162, x163, x164, x165, A166, c167, l168, x171, x172, x173, x174, A175, c176, l177, (by exact Kn.pick (ks := [0]) hk rfl), hs, f169, f178, f900019, fg3, hc170, hc179, H⟩
  · rw [b204] at hk H
    replace H := bifT H
    refine x_if hk (b := true) rfl ?_
    refine (show Code.wpIn _ _ _ _ _ _ _ from ?_)
    refine wpIn_skip ?_
    refine then_n ?_
    refine x_seq ?_
    refine wpIn_block ?_
    refine x_seq ?_
    refine wpIn_region_lit ?_
    refine x_run tab hk (k := 2) (lv := []) (ks := [0, 1, 5, 8, 9]) (e' := [(0, .pointer (some ⟨bp0, 0, none⟩)), (1, .string p1), (5, .int .i64 x180), (8, .int .i64 ((p1).size : Int)), (9, .int .i64 x180)]) rfl trivial fun a hk => ?_
    refine wpListIn_nil ?_
    refine then_n ?_
    refine wpIn_region_lit ?_
    obtain ⟨q205, H⟩ := ifS H
    refine x_run tab hk (k := 4) (lv := []) (ks := [0, 1, 8, 9, 12, 15]) (e' := [(0, .pointer (some ⟨bp0, 0, none⟩)), (1, .string p1), (8, .int .i64 ((p1).size : Int)), (9, .int .i64 x180), (12, .pointer (some ⟨bp0, 0, none⟩)), (15, .int .u8 (bt p1 x180))]) rfl ⟨q205, trivial⟩ fun a hk => ?_
    refine x_op hk rfl ?_
    obtain ⟨t209, hc210, H⟩ := bindS H
    refine op_call hk ent_45 (vs := [.pointer (some ⟨bp0, 0, none⟩), .int .u8 (bt p1 x180)]) rfl (seq_Parser_one_calls K bp0 A166 c167 A175 c176 (⟨x160, x161, x162, x163, x164, x165, l168, x171, x172, x173, x174, l177⟩ : T47) (bt p1 x180) _ o159 1 0 fg3 2 f900019 3 f169 hc170 4 f178 hc179 (by decide) (by decide)   _ hc210) ?_
    rintro _ w211 ⟨o212, A215, c216, A219, c220, rfl, st213, f214, f217, hc218, f221, hc222⟩
    replace fg3 := fg3.st st213 (by decide)
    replace hs := hs.locQ st213 hob rfl
    have hk := hk.put 16 (.tuple #[]) rfl
    refine wpListIn_nil ?_
    refine blk_n ?_
    refine then_n ?_
    refine wpIn_region_lit ?_
    refine x_run tab hk (k := 2) (lv := []) (ks := [0, 1, 8, 9]) (e' := [(0, .pointer (some ⟨bp0, 0, none⟩)), (1, .string p1), (8, .int .i64 ((p1).size : Int)), (9, .int .i64 (IntKind.wrap .i64 (x180 + 1)))]) rfl trivial fun a hk => ?_
    refine wpListIn_nil ?_
    refine then_n ?_
    exact ⟨k201, Nat.le_refl _, o212, t209.state, t209.order_private_, t209.order_wrong, t209.order_any, t209.order_some, t209.order_n, A215, c216, t209.order_nums, t209.text, t209.runes_Lead, t209.runes_Rune, t209.runes_Need, A219, c220, t209.out, (IntKind.wrap .i64 (x180 + 1)), (by exact Kn.pick (ks := [0, 1, 8, 9]) hk rfl), hs, f217, f221, f214, fg3, hc218, hc222, (hlp203 ▸ H)⟩

/-! tidewrack/tidewracktop.TidewrackPrinted -/
set_option maxHeartbeats 4000000 in
theorem tidewracktop_TidewrackPrinted_calls (K : Nat) (Ap0 : Option Addr) (cp0 : Nat) (p0 : List Int) (Ap1 : Option Addr) (cp1 : Nat) (p1 : List Int) (p2 : Int) (w : World) (o : Nat → Nat) (Lg3 : Nat) (hg3 : Ft (RdC ET192 (some ⟨3, 0, none⟩) glob3) w o Lg3) (Lp0 : Nat) (hp0 : Ft (RdC (encInt .i32) Ap0 p0) w o Lp0) (hcp0 : (p0).length ≤ cp0) (Lp1 : Nat) (hp1 : Ft (RdC (encInt .i64) Ap1 p1) w o Lp1) (hcp1 : (p1).length ≤ cp1)  (r : Bool) (H : tidewracktop_TidewrackPrinted K p0 p1 p2 = some r) :
    Calls Tryd.prog 5 #[.slice Ap0 (p0).length cp0, .slice Ap1 (p1).length cp1, .int .i64 p2] w (Ret fun v_ w' => ∃ o' : Nat → Nat, v_ = .bool r ∧ St [] w o w' o') := by
  refine x_enter (vs := [.slice Ap0 (p0).length cp0, .slice Ap1 (p1).length cp1, .int .i64 p2]) Tryd.func5 rfl rfl rfl fun a hk => ?_
  obtain ⟨o0, hs, h0⟩ := St.start w o
  have fg3 := h0 _ _ hg3
  have f900000 := h0 _ _ hp0
  have f900020 := h0 _ _ hp1
  clear h0
  rw [tidewracktop_TidewrackPrinted] at H
  refine x_seq ?_
  refine wpIn_region_lit ?_
  refine x_run tab hk (k := 1) (lv := []) (ks := [0, 1, 2]) (e' := [(0, .slice Ap0 (p0).length cp0), (1, .slice Ap1 (p1).length cp1), (2, .int .i64 p2)]) rfl trivial fun a hk => ?_
  refine wpListIn_nil ?_
  refine then_n ?_
  refine x_seq ?_
  refine x_seq ?_
  refine wpIn_region_lit ?_
  refine x_op hk rfl ?_
  obtain ⟨t4, hc5, H⟩ := bindS H
  refine op_call hk ent_9 (vs := [.string (⟨#[97]⟩ : ByteArray)]) rfl (glyph_Decode_calls K (⟨#[97]⟩ : ByteArray) _ o0 0 fg3 2  _ hc5) ?_
  rintro _ w6 ⟨o7, A9, c10, rfl, st8, f11, hc12⟩
  replace f900000 := f900000.st st8 (by decide)
  replace f900020 := f900020.st st8 (by decide)
  replace fg3 := fg3.st st8 (by decide)
  replace hs := hs.loc0 st8 (by decide)
  have hk := hk.put 18 (.slice A9 (t4).length c10) rfl
  refine x_run tab hk (k := 2) (lv := []) (ks := [0, 1, 2, 20]) (e' := [(0, .slice Ap0 (p0).length cp0), (1, .slice Ap1 (p1).length cp1), (2, .int .i64 p2), (20, .bool (((t4).length : Int) != (1 : Int)))]) rfl trivial fun a hk => ?_
  refine wpListIn_nil ?_
  refine then_n ?_
  cases b13 : (((t4).length : Int) != (1 : Int))
  · rw [b13] at hk H
    replace H := bifF H
    refine x_if hk (b := false) rfl ?_
    refine (show Code.wpIn _ _ _ _ _ _ _ from ?_)
    refine wpIn_skip ?_
    refine then_n ?_
    refine x_seq ?_
    refine wpIn_region_lit ?_
    refine x_op hk rfl ?_
    refine op_slice (o := o7) tab hk (vs := [.string (⟨#[]⟩ : ByteArray), .string (⟨#[27, 91, 51, 49, 109]⟩ : ByteArray), .string (⟨#[27, 93, 48, 59, 120, 7]⟩ : ByteArray), .string (⟨#[27, 91, 63, 50, 53, 108]⟩ : ByteArray), .string (⟨#[27, 40, 66]⟩ : ByteArray), .string (⟨#[27, 91, 50, 59, 51, 72]⟩ : ByteArray), .string (⟨#[27, 55]⟩ : ByteArray)]) (cs := [.string (⟨#[]⟩ : ByteArray), .string (⟨#[27, 91, 51, 49, 109]⟩ : ByteArray), .string (⟨#[27, 93, 48, 59, 120, 7]⟩ : ByteArray), .string (⟨#[27, 91, 63, 50, 53, 108]⟩ : ByteArray), .string (⟨#[27, 40, 66]⟩ : ByteArray), .string (⟨#[27, 91, 50, 59, 51, 72]⟩ : ByteArray), .string (⟨#[27, 55]⟩ : ByteArray)]) rfl rfl rfl rfl rfl rfl rfl rfl rfl 3 fun bx17 w14 o15 st16 f18 => ?_
    replace f900000 := f900000.st st16 (by decide)
    replace f900020 := f900020.st st16 (by decide)
    replace fg3 := fg3.st st16 (by decide)
    replace hs := hs.loc0 st16 (by decide)
    have f19 : Ft (Own encStr 9 (.slice (some ⟨bx17, 0, none⟩) (([(⟨#[]⟩ : ByteArray), (⟨#[27, 91, 51, 49, 109]⟩ : ByteArray), (⟨#[27, 93, 48, 59, 120, 7]⟩ : ByteArray), (⟨#[27, 91, 63, 50, 53, 108]⟩ : ByteArray), (⟨#[27, 40, 66]⟩ : ByteArray), (⟨#[27, 91, 50, 59, 51, 72]⟩ : ByteArray), (⟨#[27, 55]⟩ : ByteArray)] : List ByteArray)).length 7) ([(⟨#[]⟩ : ByteArray), (⟨#[27, 91, 51, 49, 109]⟩ : ByteArray), (⟨#[27, 93, 48, 59, 120, 7]⟩ : ByteArray), (⟨#[27, 91, 63, 50, 53, 108]⟩ : ByteArray), (⟨#[27, 40, 66]⟩ : ByteArray), (⟨#[27, 91, 50, 59, 51, 72]⟩ : ByteArray), (⟨#[27, 55]⟩ : ByteArray)] : List ByteArray)) w14 o15 3 := f18.imp fun _ h_ => Own.of_box h_ rfl (by simp)
    have hk := hk.put 21 (.slice (some ⟨bx17, 0, none⟩) (([(⟨#[]⟩ : ByteArray), (⟨#[27, 91, 51, 49, 109]⟩ : ByteArray), (⟨#[27, 93, 48, 59, 120, 7]⟩ : ByteArray), (⟨#[27, 91, 63, 50, 53, 108]⟩ : ByteArray), (⟨#[27, 40, 66]⟩ : ByteArray), (⟨#[27, 91, 50, 59, 51, 72]⟩ : ByteArray), (⟨#[27, 55]⟩ : ByteArray)] : List ByteArray)).length 7) rfl
    refine x_run tab hk (k := 1) (lv := []) (ks := [0, 1, 2, 7]) (e' := [(0, .slice Ap0 (p0).length cp0), (1, .slice Ap1 (p1).length cp1), (2, .int .i64 p2), (7, .slice (some ⟨bx17, 0, none⟩) (([(⟨#[]⟩ : ByteArray), (⟨#[27, 91, 51, 49, 109]⟩ : ByteArray), (⟨#[27, 93, 48, 59, 120, 7]⟩ : ByteArray), (⟨#[27, 91, 63, 50, 53, 108]⟩ : ByteArray), (⟨#[27, 40, 66]⟩ : ByteArray), (⟨#[27, 91, 50, 59, 51, 72]⟩ : ByteArray), (⟨#[27, 55]⟩ : ByteArray)] : List ByteArray)).length 7)]) rfl trivial fun a hk => ?_
    refine wpListIn_nil ?_
    refine then_n ?_
    refine x_seq ?_
    refine wpIn_region_lit ?_
    refine x_run tab hk (k := 1) (lv := []) (ks := [0, 1, 2, 7, 8]) (e' := [(0, .slice Ap0 (p0).length cp0), (1, .slice Ap1 (p1).length cp1), (2, .int .i64 p2), (7, .slice (some ⟨bx17, 0, none⟩) (([(⟨#[]⟩ : ByteArray), (⟨#[27, 91, 51, 49, 109]⟩ : ByteArray), (⟨#[27, 93, 48, 59, 120, 7]⟩ : ByteArray), (⟨#[27, 91, 63, 50, 53, 108]⟩ : ByteArray), (⟨#[27, 40, 66]⟩ : ByteArray), (⟨#[27, 91, 50, 59, 51, 72]⟩ : ByteArray), (⟨#[27, 55]⟩ : ByteArray)] : List ByteArray)).length 7), (8, .string (⟨#[]⟩ : ByteArray))]) rfl trivial fun a hk => ?_
    refine wpListIn_nil ?_
    refine then_n ?_
    refine x_seq ?_
    refine wpIn_region_lit ?_
    refine x_run tab hk (k := 1) (lv := []) (ks := [0, 1, 2, 7, 8, 9]) (e' := [(0, .slice Ap0 (p0).length cp0), (1, .slice Ap1 (p1).length cp1), (2, .int .i64 p2), (7, .slice (some ⟨bx17, 0, none⟩) (([(⟨#[]⟩ : ByteArray), (⟨#[27, 91, 51, 49, 109]⟩ : ByteArray), (⟨#[27, 93, 48, 59, 120, 7]⟩ : ByteArray), (⟨#[27, 91, 63, 50, 53, 108]⟩ : ByteArray), (⟨#[27, 40, 66]⟩ : ByteArray), (⟨#[27, 91, 50, 59, 51, 72]⟩ : ByteArray), (⟨#[27, 55]⟩ : ByteArray)] : List ByteArray)).length 7), (8, .string (⟨#[]⟩ : ByteArray)), (9, .slice none 0 0)]) rfl trivial fun a hk => ?_
    refine wpListIn_nil ?_
    refine then_n ?_
    refine x_mid (fun a_ w_ => ∃ o365 : Nat → Nat, ∃ x366 : ByteArray, ∃ A367 : Option Addr, ∃ c368 : Nat, ∃ l369 : List Int, Kn 132 a_ [(2, .int .i64 p2), (8, .string x366), (9, .slice A367 (l369).length c368)] ∧ St [] w (fun _ => 0) w_ o365 ∧ Ft (Own (encInt .i32) 21 (.slice A367 (l369).length c368) l369) w_ o365 33 ∧ Ft (RdC ET192 (some ⟨3, 0, none⟩) glob3) w_ o365 0 ∧ (l369).length ≤ c368 ∧ tidewracktop_TidewrackPrinted_j1 K p2 x366 l369 = some r) ?_ ?_
    rotate_left
    · rintro a w372 ⟨o365, x366, A367, c368, l369, hk, hs, f370, fg3, hc371, H⟩
      rw [tidewracktop_TidewrackPrinted_j1] at H
      refine x_seq ?_
      refine wpIn_region_lit ?_
      refine x_run tab hk (k := 6) (lv := []) (ks := [2, 8, 9]) (e' := [(2, .int .i64 (mxI 0 (mnI p2 ((x366).size : Int)))), (8, .string x366), (9, .slice A367 (l369).length c368)]) rfl trivial fun a hk => ?_
      refine wpListIn_nil ?_
      refine then_n ?_
      refine x_seq ?_
      refine wpIn_region_lit ?_
      refine x_op hk rfl ?_
      refine op_alloc (o := o365) tab (t := 48) (cs := [.int .i64 0, .bool false, .bool false, .bool false, .bool false, .int .i64 0, .slice none 0 0, .string (⟨#[]⟩ : ByteArray), .int .u8 0, .int .i32 0, .int .i64 0, .slice none 0 0]) rfl rfl 34 fun bx376 w373 o374 st375 f377 => ?_
      replace f370 := f370.st st375 (by decide)
      replace fg3 := fg3.st st375 (by decide)
      replace hs := hs.loc0 st375 (by decide)
      have hk := hk.put 11 (.pointer (some ⟨bx376, 0, none⟩)) rfl
      refine wpListIn_nil ?_
      refine then_n ?_
      refine x_seq ?_
      refine wpIn_region_lit ?_
      refine x_run tab hk (k := 1) (lv := []) (ks := [2, 8, 9, 11, 12]) (e' := [(2, .int .i64 (mxI 0 (mnI p2 ((x366).size : Int)))), (8, .string x366), (9, .slice A367 (l369).length c368), (11, .pointer (some ⟨bx376, 0, none⟩)), (12, .slice none 0 0)]) rfl trivial fun a hk => ?_
      refine wpListIn_nil ?_
      refine then_n ?_
      refine x_mid (fun a_ w_ => ∃ o1682 : Nat → Nat, ∃ A1683 : Option Addr, ∃ c1684 : Nat, ∃ l1685 : List Int, Kn 132 a_ [(9, .slice A367 (l369).length c368), (12, .slice A1683 (l1685).length c1684)] ∧ St [] w (fun _ => 0) w_ o1682 ∧ Ft (Own (encInt .i32) 21 (.slice A1683 (l1685).length c1684) l1685) w_ o1682 238 ∧ Ft (Own (encInt .i32) 21 (.slice A367 (l369).length c368) l369) w_ o1682 237 ∧ Ft (RdC ET192 (some ⟨3, 0, none⟩) glob3) w_ o1682 0 ∧ (l1685).length ≤ c1684 ∧ tidewracktop_TidewrackPrinted_j2 K l369 l1685 = some r) ?_ ?_
      rotate_left
      · rintro a w1688 ⟨o1682, A1683, c1684, l1685, hk, hs, f1686, f370, fg3, hc1687, H⟩
        rw [tidewracktop_TidewrackPrinted_j2] at H
        refine x_seq ?_
        refine x_seq ?_
        refine wpIn_region_lit ?_
        refine x_run tab hk (k := 5) (lv := []) (ks := [9, 12, 116]) (e' := [(9, .slice A367 (l369).length c368), (12, .slice A1683 (l1685).length c1684), (116, .bool (((l1685).length : Int) != ((l369).length : Int)))]) rfl trivial fun a hk => ?_
        refine wpListIn_nil ?_
        refine then_n ?_
        cases b1689 : (((l1685).length : Int) != ((l369).length : Int))
        · rw [b1689] at hk H
          replace H := bifF H
          refine x_if hk (b := false) rfl ?_
          refine (show Code.wpIn _ _ _ _ _ _ _ from ?_)
          refine wpIn_skip ?_
          refine then_n ?_
          refine x_mid (fun a_ w_ => ∃ o1750 : Nat → Nat, Kn 132 a_ [] ∧ St [] w (fun _ => 0) w_ o1750 ∧ Ft (RdC ET192 (some ⟨3, 0, none⟩) glob3) w_ o1750 0 ∧ tidewracktop_TidewrackPrinted_j3 = some r) ?_ ?_
          rotate_left
          · rintro a w1751 ⟨o1750, hk, hs, fg3, H⟩
            rw [tidewracktop_TidewrackPrinted_j3] at H
            refine x_seq ?_
            refine wpIn_region_lit ?_
            refine x_run tab hk (k := 1) (lv := []) (ks := [6]) (e' := [(6, .bool true)]) rfl trivial fun a hk => ?_
            refine wpListIn_nil ?_
            refine then_n ?_
            refine wpIn_ret ?_
            obtain rfl := Option.some.inj H
            exact x_retG hk (rs := [.tmp 6]) (vs := [.bool true]) rfl ⟨rfl, trivial⟩ ⟨fun b_ => if b_ < w.heap.size then o b_ else (fun _ => 0) (o1750 b_), rfl, hs.close0 o (fun _ => 0)⟩
          refine x_seq ?_
          refine wpIn_region_lit ?_
          refine x_run tab hk (k := 3) (lv := []) (ks := [9, 12, 118, 119]) (e' := [(9, .slice A367 (l369).length c368), (12, .slice A1683 (l1685).length c1684), (118, .int .i64 ((l369).length : Int)), (119, .int .i64 0)]) rfl trivial fun a hk => ?_
          refine wpListIn_nil ?_
          refine then_n ?_
          refine wpIn_block ?_
          refine x_loop (fun j_ a_ w_ => ∃ o1771 : Nat → Nat, ∃ x1772 : Int, Kn 132 a_ [(9, .slice A367 (l369).length c368), (12, .slice A1683 (l1685).length c1684), (118, .int .i64 ((l369).length : Int)), (119, .int .i64 x1772)] ∧ St [] w (fun _ => 0) w_ o1771 ∧ Ft (Own (encInt .i32) 21 (.slice A1683 (l1685).length c1684) l1685) w_ o1771 246 ∧ Ft (Own (encInt .i32) 21 (.slice A367 (l369).length c368) l369) w_ o1771 245 ∧ Ft (RdC ET192 (some ⟨3, 0, none⟩) glob3) w_ o1771 0 ∧ tidewracktop_TidewrackPrinted_l4 l369 l1685 j_ x1772 = some r) (k := K) ⟨(fun b_ => (fun l_ => if l_ = 237 then 245 else if l_ = 238 then 246 else l_) (o1682 b_)), 0, (by exact Kn.pick (ks := [9, 12, 118, 119]) hk rfl), (hs.relab0 (fun l_ => if l_ = 237 then 245 else if l_ = 238 then 246 else l_) rfl), (f1686.relab (fun l_ => if l_ = 237 then 245 else if l_ = 238 then 246 else l_) rfl), (f370.relab (fun l_ => if l_ = 237 then 245 else if l_ = 238 then 246 else l_) rfl), (fg3.relab (fun l_ => if l_ = 237 then 245 else if l_ = 238 then 246 else l_) rfl), H⟩ (by rintro _ _ ⟨_, _, _, _, _, _, _, H_⟩; exact absurd (show (none : Option Bool) = some r from H_) (by simp)) ?_
          rintro k1790 a w1789 ⟨o1771, x1772, hk, hs, f1686, f370, fg3, H⟩
          rw [tidewracktop_TidewrackPrinted_l4] at H
          obtain ⟨lp1791, hlp1792⟩ : ∃ lp_, lp_ = tidewracktop_TidewrackPrinted_l4 l369 l1685 k1790 := ⟨_, rfl⟩
          rw [← hlp1792] at H
          refine x_seq ?_
          refine wpIn_region_lit ?_
          refine x_run tab hk (k := 1) (lv := []) (ks := [9, 12, 118, 119, 120]) (e' := [(9, .slice A367 (l369).length c368), (12, .slice A1683 (l1685).length c1684), (118, .int .i64 ((l369).length : Int)), (119, .int .i64 x1772), (120, .bool (decide (x1772 < ((l369).length : Int))))]) rfl trivial fun a hk => ?_
          refine wpListIn_nil ?_
          refine then_n ?_
          refine x_seq ?_
          cases b1793 : (decide (x1772 < ((l369).length : Int)))
          · rw [b1793] at hk H
            replace H := bifF H
            refine x_if hk (b := false) rfl ?_
            refine (show Code.wpIn _ _ _ _ _ _ _ from ?_)
            refine wpIn_exit ?_
            refine then_x ?_
            refine then_x ?_
            refine blk_x ?_
            refine then_n ?_
            exact ⟨o1771, (by exact Kn.pick (ks := []) hk rfl), hs, fg3, H⟩
          · rw [b1793] at hk H
            replace H := bifT H
            refine x_if hk (b := true) rfl ?_
            refine (show Code.wpIn _ _ _ _ _ _ _ from ?_)
            refine wpIn_skip ?_
            refine then_n ?_
            refine x_seq ?_
            refine wpIn_block ?_
            refine x_seq ?_
            refine wpIn_region_lit ?_
            refine x_run tab hk (k := 2) (lv := []) (ks := [9, 12, 17, 118, 119]) (e' := [(9, .slice A367 (l369).length c368), (12, .slice A1683 (l1685).length c1684), (17, .int .i64 x1772), (118, .int .i64 ((l369).length : Int)), (119, .int .i64 x1772)]) rfl trivial fun a hk => ?_
            refine wpListIn_nil ?_
            refine then_n ?_
            refine x_seq ?_
            refine xd_begin (o := o1771) (fun W_ => (Own (encInt .i32) 21 (.slice A1683 (l1685).length c1684) l1685) W_ ∧ (Own (encInt .i32) 21 (.slice A367 (l369).length c368) l369) W_ ∧ True) mixed rfl rfl fun w1802 st1803 => ?_
            replace f1686 := f1686.st st1803 (by decide)
            replace f370 := f370.st st1803 (by decide)
            replace fg3 := fg3.st st1803 (by decide)
            replace hs := hs.loc0 st1803 (by decide)
            obtain ⟨q1804, H⟩ := ifS H
            obtain ⟨ad1805, hAad1805⟩ := RdC.addr (Own.rd f1686.now) q1804
            have hk_C := hk
            have f1686_C := f1686
            have f370_C := f370
            have fg3_C := fg3
            subst hAad1805
            have hk := hk_C
            clear hk_C
            have f1686 := f1686_C
            clear f1686_C
            have f370 := f370_C
            clear f370_C
            have fg3 := fg3_C
            clear fg3_C
            obtain ⟨q1806, H⟩ := ifS H
            obtain ⟨ad1807, hAad1807⟩ := RdC.addr (Own.rd f370.now) q1806
            have hk_C := hk
            have f1686_C := f1686
            have f370_C := f370
            have fg3_C := fg3
            subst hAad1807
            have hk := hk_C
            clear hk_C
            have f1686 := f1686_C
            clear f1686_C
            have f370 := f370_C
            clear f370_C
            have fg3 := fg3_C
            clear fg3_C
            refine xd_take tab hk (k := 0) (is := [0, 1, 2, 3, 4, 5, 6, 7, 8]) (ls' := #[true, true, true, true, true, true, true, true, true]) (lv := [.int .i32 (rdD 0 l1685 x1772), .int .i32 (rdD 0 l369 x1772)]) (ks := [9, 12, 118, 119, 130]) (e' := [(9, .slice (some ad1807) (l369).length c368), (12, .slice (some ad1805) (l1685).length c1684), (118, .int .i64 ((l369).length : Int)), (119, .int .i64 x1772), (130, .bool ((rdD 0 l1685 x1772) != (rdD 0 l369 x1772)))]) (by kernel_rfl) rfl rfl (by kernel_rfl) (np_then (np_blk (np_then (np_then (np_blk (np_then np_body)))))) ⟨f1686.now, f370.now, trivial⟩ (fun W_ hS => ⟨q1804, (load1 tab rfl (RdC.at0 (E := (encInt .i32)) (d := 0) (i := x1772) (Own.rd hS.1) q1804 rfl)), q1806, (load1 tab rfl (RdC.at0 (E := (encInt .i32)) (d := 0) (i := x1772) (Own.rd hS.2.1) q1806 rfl)), trivial⟩) fun a hk => ?_
            refine xd_done (by kernel_rfl) ?_
            refine then_n ?_
            cases b1808 : ((rdD 0 l1685 x1772) != (rdD 0 l369 x1772))
            · rw [b1808] at hk H
              replace H := bifF H
              refine x_if hk (b := false) rfl ?_
              refine (show Code.wpIn _ _ _ _ _ _ _ from ?_)
              refine wpIn_skip ?_
              refine blk_n ?_
              refine then_n ?_
              refine wpIn_region_lit ?_
              refine x_run tab hk (k := 2) (lv := []) (ks := [9, 12, 118, 119]) (e' := [(9, .slice (some ad1807) (l369).length c368), (12, .slice (some ad1805) (l1685).length c1684), (118, .int .i64 ((l369).length : Int)), (119, .int .i64 (IntKind.wrap .i64 (x1772 + 1)))]) rfl trivial fun a hk => ?_
              refine wpListIn_nil ?_
              refine then_n ?_
              exact ⟨k1790, Nat.le_refl _, o1771, (IntKind.wrap .i64 (x1772 + 1)), (by exact Kn.pick (ks := [9, 12, 118, 119]) hk rfl), hs, f1686, f370, fg3, (hlp1792 ▸ H)⟩
            · rw [b1808] at hk H
              replace H := bifT H
              refine x_if hk (b := true) rfl ?_
              refine (show Code.wpIn _ _ _ _ _ _ _ from ?_)
              refine x_seq ?_
              refine wpIn_region_lit ?_
              refine x_run tab hk (k := 1) (lv := []) (ks := [6]) (e' := [(6, .bool false)]) rfl trivial fun a hk => ?_
              refine wpListIn_nil ?_
              refine then_n ?_
              refine wpIn_ret ?_
              refine blk_r ?_
              refine then_r ?_
              refine then_r ?_
              refine blk_r ?_
              refine then_r ?_
              obtain rfl := Option.some.inj H
              exact x_retG hk (rs := [.tmp 6]) (vs := [.bool false]) rfl ⟨rfl, trivial⟩ ⟨fun b_ => if b_ < w.heap.size then o b_ else (fun _ => 0) (o1771 b_), rfl, hs.close0 o (fun _ => 0)⟩
        · rw [b1689] at hk H
          replace H := bifT H
          refine x_if hk (b := true) rfl ?_
          refine (show Code.wpIn _ _ _ _ _ _ _ from ?_)
          refine x_seq ?_
          refine wpIn_region_lit ?_
          refine x_run tab hk (k := 1) (lv := []) (ks := [6]) (e' := [(6, .bool false)]) rfl trivial fun a hk => ?_
          refine wpListIn_nil ?_
          refine then_n ?_
          refine wpIn_ret ?_
          refine then_r ?_
          obtain rfl := Option.some.inj H
          exact x_retG hk (rs := [.tmp 6]) (vs := [.bool false]) rfl ⟨rfl, trivial⟩ ⟨fun b_ => if b_ < w.heap.size then o b_ else (fun _ => 0) (o1682 b_), rfl, hs.close0 o (fun _ => 0)⟩
      refine x_seq ?_
      refine xd_begin (o := o374) (fun W_ => True) mixed rfl rfl fun w1825 st1826 => ?_
      replace f370 := f370.st st1826 (by decide)
      replace f377 := f377.st st1826 (by decide)
      replace fg3 := fg3.st st1826 (by decide)
      replace hs := hs.loc0 st1826 (by decide)
      obtain ⟨q1827, H⟩ := ifS H
      obtain ⟨q1828, H⟩ := ifS H
      refine xd_take tab hk (k := 2) (is := [0, 1, 2, 3, 4, 5, 8]) (ls' := #[true, true, true, true, true, true, false, false, true]) (lv := []) (ks := [9, 11, 12, 85, 88, 91]) (e' := [(9, .slice A367 (l369).length c368), (11, .pointer (some ⟨bx376, 0, none⟩)), (12, .slice none 0 0), (85, .string (ByteArray.extract x366 0 (Int.toNat (mxI 0 (mnI p2 ((x366).size : Int)))))), (88, .string (ByteArray.extract x366 (Int.toNat (mxI 0 (mnI p2 ((x366).size : Int)))) (x366).size)), (91, .int .i64 0)]) (by kernel_rfl) rfl rfl (by kernel_rfl) (np_then (np_then np_body)) trivial (fun W_ hS => ⟨q1827, q1828, q1827, q1828, trivial⟩) fun a hk => ?_
      refine xd_op hk (i := 6) (by kernel_rfl) rfl rfl ?_
      refine op_slice (o := o374) tab hk (vs := [.string (ByteArray.extract x366 0 (Int.toNat (mxI 0 (mnI p2 ((x366).size : Int))))), .string (ByteArray.extract x366 (Int.toNat (mxI 0 (mnI p2 ((x366).size : Int)))) (x366).size)]) (cs := [.string (ByteArray.extract x366 0 (Int.toNat (mxI 0 (mnI p2 ((x366).size : Int))))), .string (ByteArray.extract x366 (Int.toNat (mxI 0 (mnI p2 ((x366).size : Int)))) (x366).size)]) rfl rfl rfl rfl rfl rfl rfl rfl rfl 249 fun bx1832 w1829 o1830 st1831 f1833 => ?_
      replace f370 := f370.st st1831 (by decide)
      replace f377 := f377.st st1831 (by decide)
      replace fg3 := fg3.st st1831 (by decide)
      replace hs := hs.loc0 st1831 (by decide)
      have f1834 : Ft (Own encStr 9 (.slice (some ⟨bx1832, 0, none⟩) (([(ByteArray.extract x366 0 (Int.toNat (mxI 0 (mnI p2 ((x366).size : Int))))), (ByteArray.extract x366 (Int.toNat (mxI 0 (mnI p2 ((x366).size : Int)))) (x366).size)] : List ByteArray)).length 2) ([(ByteArray.extract x366 0 (Int.toNat (mxI 0 (mnI p2 ((x366).size : Int))))), (ByteArray.extract x366 (Int.toNat (mxI 0 (mnI p2 ((x366).size : Int)))) (x366).size)] : List ByteArray)) w1829 o1830 249 := f1833.imp fun _ h_ => Own.of_box h_ rfl (by simp)
      have hk := hk.put 89 (.slice (some ⟨bx1832, 0, none⟩) (([(ByteArray.extract x366 0 (Int.toNat (mxI 0 (mnI p2 ((x366).size : Int))))), (ByteArray.extract x366 (Int.toNat (mxI 0 (mnI p2 ((x366).size : Int)))) (x366).size)] : List ByteArray)).length 2) rfl
      refine ⟨.inr trivial, ?_⟩
      refine xd_take tab hk (k := 0) (is := [7]) (ls' := #[true, true, true, true, true, true, true, true, true]) (lv := []) (ks := [9, 11, 12, 89, 90, 91]) (e' := [(9, .slice A367 (l369).length c368), (11, .pointer (some ⟨bx376, 0, none⟩)), (12, .slice none 0 0), (89, .slice (some ⟨bx1832, 0, none⟩) (([(ByteArray.extract x366 0 (Int.toNat (mxI 0 (mnI p2 ((x366).size : Int))))), (ByteArray.extract x366 (Int.toNat (mxI 0 (mnI p2 ((x366).size : Int)))) (x366).size)] : List ByteArray)).length 2), (90, .int .i64 ((([(ByteArray.extract x366 0 (Int.toNat (mxI 0 (mnI p2 ((x366).size : Int))))), (ByteArray.extract x366 (Int.toNat (mxI 0 (mnI p2 ((x366).size : Int)))) (x366).size)] : List ByteArray)).length : Int)), (91, .int .i64 0)]) (by kernel_rfl) rfl rfl (by kernel_rfl) (np_then (np_then np_body)) trivial (fun W_ hS => trivial) fun a hk => ?_
      refine xd_done (by kernel_rfl) ?_
      refine then_n ?_
      refine wpIn_block ?_
      refine x_loop (fun j_ a_ w_ => ∃ o2469 : Nat → Nat, ∃ x2470 : Int, ∃ x2471 : Bool, ∃ x2472 : Bool, ∃ x2473 : Bool, ∃ x2474 : Bool, ∃ x2475 : Int, ∃ A2476 : Option Addr, ∃ c2477 : Nat, ∃ l2478 : List Int, ∃ x2481 : ByteArray, ∃ x2482 : Int, ∃ x2483 : Int, ∃ x2484 : Int, ∃ A2485 : Option Addr, ∃ c2486 : Nat, ∃ l2487 : List Int, ∃ x2490 : Int, Kn 132 a_ [(9, .slice A367 (l369).length c368), (11, .pointer (some ⟨bx376, 0, none⟩)), (12, .slice A2485 (l2487).length c2486), (89, .slice (some ⟨bx1832, 0, none⟩) (([(ByteArray.extract x366 0 (Int.toNat (mxI 0 (mnI p2 ((x366).size : Int))))), (ByteArray.extract x366 (Int.toNat (mxI 0 (mnI p2 ((x366).size : Int)))) (x366).size)] : List ByteArray)).length 2), (90, .int .i64 ((([(ByteArray.extract x366 0 (Int.toNat (mxI 0 (mnI p2 ((x366).size : Int))))), (ByteArray.extract x366 (Int.toNat (mxI 0 (mnI p2 ((x366).size : Int)))) (x366).size)] : List ByteArray)).length : Int)), (91, .int .i64 x2490)] ∧ St [] w (fun _ => 0) w_ o2469 ∧ Ft (Own encStr 9 (.slice (some ⟨bx1832, 0, none⟩) (([(ByteArray.extract x366 0 (Int.toNat (mxI 0 (mnI p2 ((x366).size : Int))))), (ByteArray.extract x366 (Int.toNat (mxI 0 (mnI p2 ((x366).size : Int)))) (x366).size)] : List ByteArray)).length 2) ([(ByteArray.extract x366 0 (Int.toNat (mxI 0 (mnI p2 ((x366).size : Int))))), (ByteArray.extract x366 (Int.toNat (mxI 0 (mnI p2 ((x366).size : Int)))) (x366).size)] : List ByteArray)) w_ o2469 357 ∧ CO (encInt .i64) 3 A2476 c2477 l2478 (x2470 == (3 : Int)) w_ o2469 354 1 ∧ Ft (Own (encInt .i32) 21 (.slice A2485 (l2487).length c2486) l2487) w_ o2469 356 ∧ Ft (Own (encInt .i32) 21 (.slice A367 (l369).length c368) l369) w_ o2469 353 ∧ Ft (Bx bx376 48 [.int .i64 x2470, .bool x2471, .bool x2472, .bool x2473, .bool x2474, .int .i64 x2475, .slice A2476 (l2478).length c2477, .string x2481, .int .u8 x2482, .int .i32 x2483, .int .i64 x2484, .slice none 0 0]) w_ o2469 355 ∧ Ft (RdC ET192 (some ⟨3, 0, none⟩) glob3) w_ o2469 0 ∧ (l2478).length ≤ c2477 ∧ (l2487).length ≤ c2486 ∧ tidewracktop_TidewrackPrinted_l5 K p2 x366 l369 j_ x2470 x2471 x2472 x2473 x2474 x2475 l2478 x2481 x2482 x2483 x2484 l2487 x2490 = some r) (k := K) ⟨(fun b_ => (fun l_ => if l_ = 33 then 353 else if l_ = 34 then 355 else if l_ = 249 then 357 else l_) (o1830 b_)), 0, false, false, false, false, 0, none, 0, ([] : List Int), (⟨#[]⟩ : ByteArray), 0, 0, 0, none, 0, ([] : List Int), 0, (by exact Kn.pick (ks := [9, 11, 12, 89, 90, 91]) hk rfl), (hs.relab0 (fun l_ => if l_ = 33 then 353 else if l_ = 34 then 355 else if l_ = 249 then 357 else l_) rfl), (f1834.relab (fun l_ => if l_ = 33 then 353 else if l_ = 34 then 355 else if l_ = 249 then 357 else l_) rfl), (CO.nil _ _ _ _ _ _ _), (Ft.of_all (fun _ => Own.nil _ _ _) _ _ _), (f370.relab (fun l_ => if l_ = 33 then 353 else if l_ = 34 then 355 else if l_ = 249 then 357 else l_) rfl), (f377.relab (fun l_ => if l_ = 33 then 353 else if l_ = 34 then 355 else if l_ = 249 then 357 else l_) rfl), (fg3.relab (fun l_ => if l_ = 33 then 353 else if l_ = 34 then 355 else if l_ = 249 then 357 else l_) rfl), (by simp), (by simp), H⟩ (by rintro _ _ ⟨_, _, _, _, _, _, _, _, _, _, _, _, _, _, _, _, _, _, _, _, _, _, _, _, _, _, _, _, H_⟩; exact absurd (show (none : Option Bool) = some r from H_) (by simp)) ?_
      rintro k2796 a w2795 ⟨o2469, x2470, x2471, x2472, x2473, x2474, x2475, A2476, c2477, l2478, x2481, x2482, x2483, x2484, A2485, c2486, l2487, x2490, hk, hs, f1834, f2479, f2488, f370, f377, fg3, hc2480, hc2489, H⟩
      rw [tidewracktop_TidewrackPrinted_l5] at H
      obtain ⟨lp2797, hlp2798⟩ : ∃ lp_, lp_ = tidewracktop_TidewrackPrinted_l5 K p2 x366 l369 k2796 := ⟨_, rfl⟩
      rw [← hlp2798] at H
      refine x_seq ?_
      refine wpIn_region_lit ?_
      refine x_run tab hk (k := 1) (lv := []) (ks := [9, 11, 12, 89, 90, 91, 92]) (e' := [(9, .slice A367 (l369).length c368), (11, .pointer (some ⟨bx376, 0, none⟩)), (12, .slice A2485 (l2487).length c2486), (89, .slice (some ⟨bx1832, 0, none⟩) (([(ByteArray.extract x366 0 (Int.toNat (mxI 0 (mnI p2 ((x366).size : Int))))), (ByteArray.extract x366 (Int.toNat (mxI 0 (mnI p2 ((x366).size : Int)))) (x366).size)] : List ByteArray)).length 2), (90, .int .i64 ((([(ByteArray.extract x366 0 (Int.toNat (mxI 0 (mnI p2 ((x366).size : Int))))), (ByteArray.extract x366 (Int.toNat (mxI 0 (mnI p2 ((x366).size : Int)))) (x366).size)] : List ByteArray)).length : Int)), (91, .int .i64 x2490), (92, .bool (decide (x2490 < ((([(ByteArray.extract x366 0 (Int.toNat (mxI 0 (mnI p2 ((x366).size : Int))))), (ByteArray.extract x366 (Int.toNat (mxI 0 (mnI p2 ((x366).size : Int)))) (x366).size)] : List ByteArray)).length : Int))))]) rfl trivial fun a hk => ?_
      refine wpListIn_nil ?_
      refine then_n ?_
      refine x_seq ?_
      cases b2799 : (decide (x2490 < ((([(ByteArray.extract x366 0 (Int.toNat (mxI 0 (mnI p2 ((x366).size : Int))))), (ByteArray.extract x366 (Int.toNat (mxI 0 (mnI p2 ((x366).size : Int)))) (x366).size)] : List ByteArray)).length : Int)))
      · rw [b2799] at hk H
        replace H := bifF H
        refine x_if hk (b := false) rfl ?_
        refine (show Code.wpIn _ _ _ _ _ _ _ from ?_)
        refine wpIn_exit ?_
        refine then_x ?_
        refine then_x ?_
        refine blk_x ?_
        refine then_n ?_
        exact ⟨(fun b_ => (fun l_ => if l_ = 353 then 237 else if l_ = 356 then 238 else l_) (o2469 b_)), A2485, c2486, l2487, (by exact Kn.pick (ks := [9, 12]) hk rfl), (hs.relab0 (fun l_ => if l_ = 353 then 237 else if l_ = 356 then 238 else l_) rfl), (f2488.relab (fun l_ => if l_ = 353 then 237 else if l_ = 356 then 238 else l_) rfl), (f370.relab (fun l_ => if l_ = 353 then 237 else if l_ = 356 then 238 else l_) rfl), (fg3.relab (fun l_ => if l_ = 353 then 237 else if l_ = 356 then 238 else l_) rfl), hc2489, H⟩
      · rw [b2799] at hk H
        replace H := bifT H
        refine x_if hk (b := true) rfl ?_
        refine (show Code.wpIn _ _ _ _ _ _ _ from ?_)
        refine wpIn_skip ?_
        refine then_n ?_
        refine x_mid (fun a_ w_ => ∃ o2953 : Nat → Nat, ∃ x2954 : Int, ∃ x2955 : Bool, ∃ x2956 : Bool, ∃ x2957 : Bool, ∃ x2958 : Bool, ∃ x2959 : Int, ∃ A2960 : Option Addr, ∃ c2961 : Nat, ∃ l2962 : List Int, ∃ x2965 : ByteArray, ∃ x2966 : Int, ∃ x2967 : Int, ∃ x2968 : Int, ∃ A2969 : Option Addr, ∃ c2970 : Nat, ∃ l2971 : List Int, Kn 132 a_ [(9, .slice A367 (l369).length c368), (11, .pointer (some ⟨bx376, 0, none⟩)), (12, .slice A2969 (l2971).length c2970), (89, .slice (some ⟨bx1832, 0, none⟩) (([(ByteArray.extract x366 0 (Int.toNat (mxI 0 (mnI p2 ((x366).size : Int))))), (ByteArray.extract x366 (Int.toNat (mxI 0 (mnI p2 ((x366).size : Int)))) (x366).size)] : List ByteArray)).length 2), (90, .int .i64 ((([(ByteArray.extract x366 0 (Int.toNat (mxI 0 (mnI p2 ((x366).size : Int))))), (ByteArray.extract x366 (Int.toNat (mxI 0 (mnI p2 ((x366).size : Int)))) (x366).size)] : List ByteArray)).length : Int)), (91, .int .i64 x2490)] ∧ St [] w (fun _ => 0) w_ o2953 ∧ Ft (Own encStr 9 (.slice (some ⟨bx1832, 0, none⟩) (([(ByteArray.extract x366 0 (Int.toNat (mxI 0 (mnI p2 ((x366).size : Int))))), (ByteArray.extract x366 (Int.toNat (mxI 0 (mnI p2 ((x366).size : Int)))) (x366).size)] : List ByteArray)).length 2) ([(ByteArray.extract x366 0 (Int.toNat (mxI 0 (mnI p2 ((x366).size : Int))))), (ByteArray.extract x366 (Int.toNat (mxI 0 (mnI p2 ((x366).size : Int)))) (x366).size)] : List ByteArray)) w_ o2953 427 ∧ Ft (Bx bx376 48 [.int .i64 x2954, .bool x2955, .bool x2956, .bool x2957, .bool x2958, .int .i64 x2959, .slice A2960 (l2962).length c2961, .string x2965, .int .u8 x2966, .int .i32 x2967, .int .i64 x2968, .slice none 0 0]) w_ o2953 425 ∧ CO (encInt .i64) 3 A2960 c2961 l2962 (x2954 == (3 : Int)) w_ o2953 424 1 ∧ Ft (Own (encInt .i32) 21 (.slice A2969 (l2971).length c2970) l2971) w_ o2953 426 ∧ Ft (Own (encInt .i32) 21 (.slice A367 (l369).length c368) l369) w_ o2953 423 ∧ Ft (RdC ET192 (some ⟨3, 0, none⟩) glob3) w_ o2953 0 ∧ (l2962).length ≤ c2961 ∧ (l2971).length ≤ c2970 ∧ tidewracktop_TidewrackPrinted_j6 x2490 lp2797 x2954 x2955 x2956 x2957 x2958 x2959 l2962 x2965 x2966 x2967 x2968 l2971 = some r) ?_ ?_
        rotate_left
        · rintro a w2974 ⟨o2953, x2954, x2955, x2956, x2957, x2958, x2959, A2960, c2961, l2962, x2965, x2966, x2967, x2968, A2969, c2970, l2971, hk, hs, f1834, f2813, f2963, f2972, f370, fg3, hc2964, hc2973, H⟩
          rw [tidewracktop_TidewrackPrinted_j6] at H
          refine wpIn_region_lit ?_
          refine x_run tab hk (k := 2) (lv := []) (ks := [9, 11, 12, 89, 90, 91]) (e' := [(9, .slice A367 (l369).length c368), (11, .pointer (some ⟨bx376, 0, none⟩)), (12, .slice A2969 (l2971).length c2970), (89, .slice (some ⟨bx1832, 0, none⟩) (([(ByteArray.extract x366 0 (Int.toNat (mxI 0 (mnI p2 ((x366).size : Int))))), (ByteArray.extract x366 (Int.toNat (mxI 0 (mnI p2 ((x366).size : Int)))) (x366).size)] : List ByteArray)).length 2), (90, .int .i64 ((([(ByteArray.extract x366 0 (Int.toNat (mxI 0 (mnI p2 ((x366).size : Int))))), (ByteArray.extract x366 (Int.toNat (mxI 0 (mnI p2 ((x366).size : Int)))) (x366).size)] : List ByteArray)).length : Int)), (91, .int .i64 (IntKind.wrap .i64 (x2490 + 1)))]) rfl trivial fun a hk => ?_
          refine wpListIn_nil ?_
          refine then_n ?_
          exact ⟨k2796, Nat.le_refl _, (fun b_ => (fun l_ => if l_ = 423 then 353 else if l_ = 424 then 354 else if l_ = 425 then 355 else if l_ = 426 then 356 else if l_ = 427 then 357 else l_) (o2953 b_)), x2954, x2955, x2956, x2957, x2958, x2959, A2960, c2961, l2962, x2965, x2966, x2967, x2968, A2969, c2970, l2971, (IntKind.wrap .i64 (x2490 + 1)), (by exact Kn.pick (ks := [9, 11, 12, 89, 90, 91]) hk rfl), (hs.relab0 (fun l_ => if l_ = 423 then 353 else if l_ = 424 then 354 else if l_ = 425 then 355 else if l_ = 426 then 356 else if l_ = 427 then 357 else l_) rfl), (f1834.relab (fun l_ => if l_ = 423 then 353 else if l_ = 424 then 354 else if l_ = 425 then 355 else if l_ = 426 then 356 else if l_ = 427 then 357 else l_) rfl), (f2963.relab (fun l_ => if l_ = 423 then 353 else if l_ = 424 then 354 else if l_ = 425 then 355 else if l_ = 426 then 356 else if l_ = 427 then 357 else l_) rfl), (f2972.relab (fun l_ => if l_ = 423 then 353 else if l_ = 424 then 354 else if l_ = 425 then 355 else if l_ = 426 then 356 else if l_ = 427 then 357 else l_) rfl), (f370.relab (fun l_ => if l_ = 423 then 353 else if l_ = 424 then 354 else if l_ = 425 then 355 else if l_ = 426 then 356 else if l_ = 427 then 357 else l_) rfl), (f2813.relab (fun l_ => if l_ = 423 then 353 else if l_ = 424 then 354 else if l_ = 425 then 355 else if l_ = 426 then 356 else if l_ = 427 then 357 else l_) rfl), (fg3.relab (fun l_ => if l_ = 423 then 353 else if l_ = 424 then 354 else if l_ = 425 then 355 else if l_ = 426 then 356 else if l_ = 427 then 357 else l_) rfl), hc2964, hc2973, (hlp2798 ▸ H)⟩
        refine wpIn_block ?_
        refine x_seq ?_
        refine wpIn_region_lit ?_
        obtain ⟨q2975, H⟩ := ifS H
        refine x_run tab hk (k := 3) (lv := [.string (rdD (⟨#[]⟩ : ByteArray) ([(ByteArray.extract x366 0 (Int.toNat (mxI 0 (mnI p2 ((x366).size : Int))))), (ByteArray.extract x366 (Int.toNat (mxI 0 (mnI p2 ((x366).size : Int)))) (x366).size)] : List ByteArray) x2490)]) (ks := [9, 11, 12, 14, 89, 90, 91]) (e' := [(9, .slice A367 (l369).length c368), (11, .pointer (some ⟨bx376, 0, none⟩)), (12, .slice A2485 (l2487).length c2486), (14, .string (rdD (⟨#[]⟩ : ByteArray) ([(ByteArray.extract x366 0 (Int.toNat (mxI 0 (mnI p2 ((x366).size : Int))))), (ByteArray.extract x366 (Int.toNat (mxI 0 (mnI p2 ((x366).size : Int)))) (x366).size)] : List ByteArray) x2490)), (89, .slice (some ⟨bx1832, 0, none⟩) (([(ByteArray.extract x366 0 (Int.toNat (mxI 0 (mnI p2 ((x366).size : Int))))), (ByteArray.extract x366 (Int.toNat (mxI 0 (mnI p2 ((x366).size : Int)))) (x366).size)] : List ByteArray)).length 2), (90, .int .i64 ((([(ByteArray.extract x366 0 (Int.toNat (mxI 0 (mnI p2 ((x366).size : Int))))), (ByteArray.extract x366 (Int.toNat (mxI 0 (mnI p2 ((x366).size : Int)))) (x366).size)] : List ByteArray)).length : Int)), (91, .int .i64 x2490)]) rfl ⟨q2975, (load1 tab rfl (RdC.at0 (E := encStr) (d := (⟨#[]⟩ : ByteArray)) (i := x2490) (Own.rd f1834.now) q2975 rfl)), trivial⟩ fun a hk => ?_
        refine wpListIn_nil ?_
        refine then_n ?_
        refine x_seq ?_
        refine wpIn_region_lit ?_
        refine x_run tab hk (k := 1) (lv := []) (ks := [9, 11, 12, 89, 90, 91, 95]) (e' := [(9, .slice A367 (l369).length c368), (11, .pointer (some ⟨bx376, 0, none⟩)), (12, .slice A2485 (l2487).length c2486), (89, .slice (some ⟨bx1832, 0, none⟩) (([(ByteArray.extract x366 0 (Int.toNat (mxI 0 (mnI p2 ((x366).size : Int))))), (ByteArray.extract x366 (Int.toNat (mxI 0 (mnI p2 ((x366).size : Int)))) (x366).size)] : List ByteArray)).length 2), (90, .int .i64 ((([(ByteArray.extract x366 0 (Int.toNat (mxI 0 (mnI p2 ((x366).size : Int))))), (ByteArray.extract x366 (Int.toNat (mxI 0 (mnI p2 ((x366).size : Int)))) (x366).size)] : List ByteArray)).length : Int)), (91, .int .i64 x2490), (95, .string (rdD (⟨#[]⟩ : ByteArray) ([(ByteArray.extract x366 0 (Int.toNat (mxI 0 (mnI p2 ((x366).size : Int))))), (ByteArray.extract x366 (Int.toNat (mxI 0 (mnI p2 ((x366).size : Int)))) (x366).size)] : List ByteArray) x2490))]) rfl trivial fun a hk => ?_
        refine x_op hk rfl ?_
        obtain ⟨t2979, hc2980, H⟩ := bindS H
        refine op_call hk ent_17 (vs := [.pointer (some ⟨bx376, 0, none⟩), .string (rdD (⟨#[]⟩ : ByteArray) ([(ByteArray.extract x366 0 (Int.toNat (mxI 0 (mnI p2 ((x366).size : Int))))), (ByteArray.extract x366 (Int.toNat (mxI 0 (mnI p2 ((x366).size : Int)))) (x366).size)] : List ByteArray) x2490)]) rfl (seq_Parser_Feed_calls K bx376 A2476 c2477 none 0 (⟨x2470, x2471, x2472, x2473, x2474, x2475, l2478, x2481, x2482, x2483, x2484, ([] : List T50)⟩ : T47) (rdD (⟨#[]⟩ : ByteArray) ([(ByteArray.extract x366 0 (Int.toNat (mxI 0 (mnI p2 ((x366).size : Int))))), (ByteArray.extract x366 (Int.toNat (mxI 0 (mnI p2 ((x366).size : Int)))) (x366).size)] : List ByteArray) x2490) _ o2469 1 0 fg3 355 f377 354 f2479 hc2480 428 (NOwn.nil _ _ _ _ 428 1) (by simp) (by decide) (by decide) 429  _ hc2980) ?_
        rintro _ w2981 ⟨o2982, A2984, c2985, A2989, c2990, rfl, st2983, f2986, hc2987, f2988, f2991, hc2992, f2993, hc2994⟩
        replace f1834 := f1834.st st2983 (by decide)
        replace f2488 := f2488.st st2983 (by decide)
        replace f370 := f370.st st2983 (by decide)
        replace fg3 := fg3.st st2983 (by decide)
        replace hs := hs.loc0 st2983 (by decide)
        have hz2995 : t2979.2.out = [] := NRd.nul f2993.rd
        have hk := hk.put 96 (.slice A2984 (t2979.1).length c2985) rfl
        refine x_run tab hk (k := 2) (lv := []) (ks := [9, 11, 12, 89, 90, 91, 96, 97, 98]) (e' := [(9, .slice A367 (l369).length c368), (11, .pointer (some ⟨bx376, 0, none⟩)), (12, .slice A2485 (l2487).length c2486), (89, .slice (some ⟨bx1832, 0, none⟩) (([(ByteArray.extract x366 0 (Int.toNat (mxI 0 (mnI p2 ((x366).size : Int))))), (ByteArray.extract x366 (Int.toNat (mxI 0 (mnI p2 ((x366).size : Int)))) (x366).size)] : List ByteArray)).length 2), (90, .int .i64 ((([(ByteArray.extract x366 0 (Int.toNat (mxI 0 (mnI p2 ((x366).size : Int))))), (ByteArray.extract x366 (Int.toNat (mxI 0 (mnI p2 ((x366).size : Int)))) (x366).size)] : List ByteArray)).length : Int)), (91, .int .i64 x2490), (96, .slice A2984 (t2979.1).length c2985), (97, .int .i64 ((t2979.1).length : Int)), (98, .int .i64 0)]) rfl trivial fun a hk => ?_
        refine wpListIn_nil ?_
        refine then_n ?_
        refine wpIn_block ?_
        refine x_loop (fun j_ a_ w_ => ∃ o3030 : Nat → Nat, ∃ A3031 : Option Addr, ∃ c3032 : Nat, ∃ l3033 : List Int, ∃ x3036 : Int, Kn 132 a_ [(9, .slice A367 (l369).length c368), (11, .pointer (some ⟨bx376, 0, none⟩)), (12, .slice A3031 (l3033).length c3032), (89, .slice (some ⟨bx1832, 0, none⟩) (([(ByteArray.extract x366 0 (Int.toNat (mxI 0 (mnI p2 ((x366).size : Int))))), (ByteArray.extract x366 (Int.toNat (mxI 0 (mnI p2 ((x366).size : Int)))) (x366).size)] : List ByteArray)).length 2), (90, .int .i64 ((([(ByteArray.extract x366 0 (Int.toNat (mxI 0 (mnI p2 ((x366).size : Int))))), (ByteArray.extract x366 (Int.toNat (mxI 0 (mnI p2 ((x366).size : Int)))) (x366).size)] : List ByteArray)).length : Int)), (91, .int .i64 x2490), (96, .slice A2984 (t2979.1).length c2985), (97, .int .i64 ((t2979.1).length : Int)), (98, .int .i64 x3036)] ∧ St [] w (fun _ => 0) w_ o3030 ∧ Ft (Own encStr 9 (.slice (some ⟨bx1832, 0, none⟩) (([(ByteArray.extract x366 0 (Int.toNat (mxI 0 (mnI p2 ((x366).size : Int))))), (ByteArray.extract x366 (Int.toNat (mxI 0 (mnI p2 ((x366).size : Int)))) (x366).size)] : List ByteArray)).length 2) ([(ByteArray.extract x366 0 (Int.toNat (mxI 0 (mnI p2 ((x366).size : Int))))), (ByteArray.extract x366 (Int.toNat (mxI 0 (mnI p2 ((x366).size : Int)))) (x366).size)] : List ByteArray)) w_ o3030 442 ∧ NOwn dT50 51 A2984 c2985 t2979.1 w_ o3030 443 1 ∧ Ft (Bx bx376 48 [.int .i64 t2979.2.state, .bool t2979.2.order_private_, .bool t2979.2.order_wrong, .bool t2979.2.order_any, .bool t2979.2.order_some, .int .i64 t2979.2.order_n, .slice A2989 (t2979.2.order_nums).length c2990, .string t2979.2.text, .int .u8 t2979.2.runes_Lead, .int .i32 t2979.2.runes_Rune, .int .i64 t2979.2.runes_Need, .slice none 0 0]) w_ o3030 440 ∧ CO (encInt .i64) 3 A2989 c2990 t2979.2.order_nums (t2979.2.state == (3 : Int)) w_ o3030 439 1 ∧ Ft (Own (encInt .i32) 21 (.slice A3031 (l3033).length c3032) l3033) w_ o3030 441 ∧ Ft (Own (encInt .i32) 21 (.slice A367 (l369).length c368) l369) w_ o3030 438 ∧ Ft (RdC ET192 (some ⟨3, 0, none⟩) glob3) w_ o3030 0 ∧ (l3033).length ≤ c3032 ∧ tidewracktop_TidewrackPrinted_l7 x2490 lp2797 t2979 j_ l3033 x3036 = some r) (k := K) ⟨(fun b_ => (fun l_ => if l_ = 353 then 438 else if l_ = 354 then 439 else if l_ = 355 then 440 else if l_ = 356 then 441 else if l_ = 357 then 442 else if l_ = 429 then 443 else l_) (o2982 b_)), A2485, c2486, l2487, 0, (by exact Kn.pick (ks := [9, 11, 12, 89, 90, 91, 96, 97, 98]) hk rfl), (hs.relab0 (fun l_ => if l_ = 353 then 438 else if l_ = 354 then 439 else if l_ = 355 then 440 else if l_ = 356 then 441 else if l_ = 357 then 442 else if l_ = 429 then 443 else l_) rfl), (f1834.relab (fun l_ => if l_ = 353 then 438 else if l_ = 354 then 439 else if l_ = 355 then 440 else if l_ = 356 then 441 else if l_ = 357 then 442 else if l_ = 429 then 443 else l_) rfl), (f2986.relab (fun l_ => if l_ = 353 then 438 else if l_ = 354 then 439 else if l_ = 355 then 440 else if l_ = 356 then 441 else if l_ = 357 then 442 else if l_ = 429 then 443 else l_) rfl), (f2988.relab (fun l_ => if l_ = 353 then 438 else if l_ = 354 then 439 else if l_ = 355 then 440 else if l_ = 356 then 441 else if l_ = 357 then 442 else if l_ = 429 then 443 else l_) rfl), (f2991.relab (fun l_ => if l_ = 353 then 438 else if l_ = 354 then 439 else if l_ = 355 then 440 else if l_ = 356 then 441 else if l_ = 357 then 442 else if l_ = 429 then 443 else l_) rfl), (f2488.relab (fun l_ => if l_ = 353 then 438 else if l_ = 354 then 439 else if l_ = 355 then 440 else if l_ = 356 then 441 else if l_ = 357 then 442 else if l_ = 429 then 443 else l_) rfl), (f370.relab (fun l_ => if l_ = 353 then 438 else if l_ = 354 then 439 else if l_ = 355 then 440 else if l_ = 356 then 441 else if l_ = 357 then 442 else if l_ = 429 then 443 else l_) rfl), (fg3.relab (fun l_ => if l_ = 353 then 438 else if l_ = 354 then 439 else if l_ = 355 then 440 else if l_ = 356 then 441 else if l_ = 357 then 442 else if l_ = 429 then 443 else l_) rfl), hc2489, H⟩ (by rintro _ _ ⟨_, _, _, _, _, _, _, _, _, _, _, _, _, _, _, H_⟩; exact absurd (show (none : Option Bool) = some r from H_) (by simp)) ?_
        rintro k3069 a w3068 ⟨o3030, A3031, c3032, l3033, x3036, hk, hs, f1834, f2986, f2988, f2991, f3034, f370, fg3, hc3035, H⟩
        rw [tidewracktop_TidewrackPrinted_l7] at H
        obtain ⟨lp3070, hlp3071⟩ : ∃ lp_, lp_ = tidewracktop_TidewrackPrinted_l7 x2490 lp2797 t2979 k3069 := ⟨_, rfl⟩
        rw [← hlp3071] at H
        refine x_seq ?_
        refine wpIn_region_lit ?_
        refine x_run tab hk (k := 1) (lv := []) (ks := [9, 11, 12, 89, 90, 91, 96, 97, 98, 99]) (e' := [(9, .slice A367 (l369).length c368), (11, .pointer (some ⟨bx376, 0, none⟩)), (12, .slice A3031 (l3033).length c3032), (89, .slice (some ⟨bx1832, 0, none⟩) (([(ByteArray.extract x366 0 (Int.toNat (mxI 0 (mnI p2 ((x366).size : Int))))), (ByteArray.extract x366 (Int.toNat (mxI 0 (mnI p2 ((x366).size : Int)))) (x366).size)] : List ByteArray)).length 2), (90, .int .i64 ((([(ByteArray.extract x366 0 (Int.toNat (mxI 0 (mnI p2 ((x366).size : Int))))), (ByteArray.extract x366 (Int.toNat (mxI 0 (mnI p2 ((x366).size : Int)))) (x366).size)] : List ByteArray)).length : Int)), (91, .int .i64 x2490), (96, .slice A2984 (t2979.1).length c2985), (97, .int .i64 ((t2979.1).length : Int)), (98, .int .i64 x3036), (99, .bool (decide (x3036 < ((t2979.1).length : Int))))]) rfl trivial fun a hk => ?_
        refine wpListIn_nil ?_
        refine then_n ?_
        refine x_seq ?_
        cases b3072 : (decide (x3036 < ((t2979.1).length : Int)))
        · rw [b3072] at hk H
          replace H := bifF H
          refine x_if hk (b := false) rfl ?_
          refine (show Code.wpIn _ _ _ _ _ _ _ from ?_)
          refine wpIn_exit ?_
          refine then_x ?_
          refine then_x ?_
          refine blk_x ?_
          refine blk_n ?_
          refine then_n ?_
          exact ⟨(fun b_ => (fun l_ => if l_ = 438 then 423 else if l_ = 439 then 424 else if l_ = 440 then 425 else if l_ = 441 then 426 else if l_ = 442 then 427 else l_) (o3030 b_)), t2979.2.state, t2979.2.order_private_, t2979.2.order_wrong, t2979.2.order_any, t2979.2.order_some, t2979.2.order_n, A2989, c2990, t2979.2.order_nums, t2979.2.text, t2979.2.runes_Lead, t2979.2.runes_Rune, t2979.2.runes_Need, A3031, c3032, l3033, (by exact Kn.pick (ks := [9, 11, 12, 89, 90, 91]) hk rfl), (hs.relab0 (fun l_ => if l_ = 438 then 423 else if l_ = 439 then 424 else if l_ = 440 then 425 else if l_ = 441 then 426 else if l_ = 442 then 427 else l_) rfl), (f1834.relab (fun l_ => if l_ = 438 then 423 else if l_ = 439 then 424 else if l_ = 440 then 425 else if l_ = 441 then 426 else if l_ = 442 then 427 else l_) rfl), (f2988.relab (fun l_ => if l_ = 438 then 423 else if l_ = 439 then 424 else if l_ = 440 then 425 else if l_ = 441 then 426 else if l_ = 442 then 427 else l_) rfl), (f2991.relab (fun l_ => if l_ = 438 then 423 else if l_ = 439 then 424 else if l_ = 440 then 425 else if l_ = 441 then 426 else if l_ = 442 then 427 else l_) rfl), (f3034.relab (fun l_ => if l_ = 438 then 423 else if l_ = 439 then 424 else if l_ = 440 then 425 else if l_ = 441 then 426 else if l_ = 442 then 427 else l_) rfl), (f370.relab (fun l_ => if l_ = 438 then 423 else if l_ = 439 then 424 else if l_ = 440 then 425 else if l_ = 441 then 426 else if l_ = 442 then 427 else l_) rfl), (fg3.relab (fun l_ => if l_ = 438 then 423 else if l_ = 439 then 424 else if l_ = 440 then 425 else if l_ = 441 then 426 else if l_ = 442 then 427 else l_) rfl), hc2992, hc3035, H⟩
        · rw [b3072] at hk H
          replace H := bifT H
          refine x_if hk (b := true) rfl ?_
          refine (show Code.wpIn _ _ _ _ _ _ _ from ?_)
          refine wpIn_skip ?_
          refine then_n ?_
          refine x_seq ?_
          refine wpIn_block ?_
          refine x_seq ?_
          refine wpIn_region_lit ?_
          obtain ⟨q3073, H⟩ := ifS H
          obtain ⟨ad3074, hAad3074⟩ := NRd.addr f2986.rd q3073
          have hk_C := hk
          have f1834_C := f1834
          have f2986_C := f2986
          have f2988_C := f2988
          have f2991_C := f2991
          have f3034_C := f3034
          have f370_C := f370
          have fg3_C := fg3
          subst hAad3074
          have hk := hk_C
          clear hk_C
          have f1834 := f1834_C
          clear f1834_C
          have f2986 := f2986_C
          clear f2986_C
          have f2988 := f2988_C
          clear f2988_C
          have f2991 := f2991_C
          clear f2991_C
          have f3034 := f3034_C
          clear f3034_C
          have f370 := f370_C
          clear f370_C
          have fg3 := fg3_C
          clear fg3_C
          obtain ⟨A3075, c3076, f3077, f3078, hc3079⟩ := elT50 f2986.rd (i := x3036) q3073
          refine x_run tab hk (k := 2) (lv := [.agg #[.int .i64 ((rdD zT50 t2979.1 x3036).Kind), .int .i32 ((rdD zT50 t2979.1 x3036).Rune), .int .u8 ((rdD zT50 t2979.1 x3036).Byte), .bool ((rdD zT50 t2979.1 x3036).Private), .slice A3075 ((rdD zT50 t2979.1 x3036).Nums).length c3076, .string ((rdD zT50 t2979.1 x3036).Text)]]) (ks := [9, 11, 12, 89, 90, 91, 96, 97, 98, 101]) (e' := [(9, .slice A367 (l369).length c368), (11, .pointer (some ⟨bx376, 0, none⟩)), (12, .slice A3031 (l3033).length c3032), (89, .slice (some ⟨bx1832, 0, none⟩) (([(ByteArray.extract x366 0 (Int.toNat (mxI 0 (mnI p2 ((x366).size : Int))))), (ByteArray.extract x366 (Int.toNat (mxI 0 (mnI p2 ((x366).size : Int)))) (x366).size)] : List ByteArray)).length 2), (90, .int .i64 ((([(ByteArray.extract x366 0 (Int.toNat (mxI 0 (mnI p2 ((x366).size : Int))))), (ByteArray.extract x366 (Int.toNat (mxI 0 (mnI p2 ((x366).size : Int)))) (x366).size)] : List ByteArray)).length : Int)), (91, .int .i64 x2490), (96, .slice (some ad3074) (t2979.1).length c2985), (97, .int .i64 ((t2979.1).length : Int)), (98, .int .i64 x3036), (101, .agg #[.int .i64 ((rdD zT50 t2979.1 x3036).Kind), .int .i32 ((rdD zT50 t2979.1 x3036).Rune), .int .u8 ((rdD zT50 t2979.1 x3036).Byte), .bool ((rdD zT50 t2979.1 x3036).Private), .slice A3075 ((rdD zT50 t2979.1 x3036).Nums).length c3076, .string ((rdD zT50 t2979.1 x3036).Text)])]) rfl ⟨q3073, (CellsAt.all f3077.now tab rfl rfl rfl), trivial⟩ fun a hk => ?_
          refine x_op hk rfl ?_
          refine op_alloc (o := o3030) tab (t := 51) (cs := [.int .i64 0, .int .i32 0, .int .u8 0, .bool false, .slice none 0 0, .string (⟨#[]⟩ : ByteArray)]) rfl rfl 446 fun bx3083 w3080 o3081 st3082 f3084 => ?_
          replace f1834 := f1834.st st3082 (by decide)
          replace f2986 := f2986.st st3082 (by decide)
          replace f2988 := f2988.st st3082 (by decide)
          replace f2991 := f2991.st st3082 (by decide)
          replace f3034 := f3034.st st3082 (by decide)
          replace f3078 := f3078.st st3082 (by decide)
          replace f370 := f370.st st3082 (by decide)
          replace fg3 := fg3.st st3082 (by decide)
          replace hs := hs.loc0 st3082 (by decide)
          have hk := hk.put 16 (.pointer (some ⟨bx3083, 0, none⟩)) rfl
          refine x_op hk rfl ?_
          refine op_store tab hk (t := 51) (v := .agg #[.int .i64 ((rdD zT50 t2979.1 x3036).Kind), .int .i32 ((rdD zT50 t2979.1 x3036).Rune), .int .u8 ((rdD zT50 t2979.1 x3036).Byte), .bool ((rdD zT50 t2979.1 x3036).Private), .slice A3075 ((rdD zT50 t2979.1 x3036).Nums).length c3076, .string ((rdD zT50 t2979.1 x3036).Text)]) (b := bx3083) (k := 0) (cs' := [.int .i64 ((rdD zT50 t2979.1 x3036).Kind), .int .i32 ((rdD zT50 t2979.1 x3036).Rune), .int .u8 ((rdD zT50 t2979.1 x3036).Byte), .bool ((rdD zT50 t2979.1 x3036).Private), .slice A3075 ((rdD zT50 t2979.1 x3036).Nums).length c3076, .string ((rdD zT50 t2979.1 x3036).Text)]) rfl rfl rfl rfl rfl rfl f3084 rfl rfl fun w3085 o3086 st3087 f3084_ => ?_
          replace f1834 := f1834.st st3087 (by decide)
          replace f2986 := f2986.st st3087 (by decide)
          replace f2988 := f2988.st st3087 (by decide)
          replace f2991 := f2991.st st3087 (by decide)
          replace f3034 := f3034.st st3087 (by decide)
          replace f3078 := f3078.st st3087 (by decide)
          replace f370 := f370.st st3087 (by decide)
          replace fg3 := fg3.st st3087 (by decide)
          replace hs := hs.loc0 st3087 (by decide)
          replace f3084 := f3084_
          refine wpListIn_nil ?_
          refine then_n ?_
          refine x_seq ?_
          refine wpIn_region_lit ?_
          refine x_run tab hk (k := 3) (lv := [.int .i64 ((rdD zT50 t2979.1 x3036).Kind)]) (ks := [9, 11, 12, 16, 89, 90, 91, 96, 97, 98, 104]) (e' := [(9, .slice A367 (l369).length c368), (11, .pointer (some ⟨bx376, 0, none⟩)), (12, .slice A3031 (l3033).length c3032), (16, .pointer (some ⟨bx3083, 0, none⟩)), (89, .slice (some ⟨bx1832, 0, none⟩) (([(ByteArray.extract x366 0 (Int.toNat (mxI 0 (mnI p2 ((x366).size : Int))))), (ByteArray.extract x366 (Int.toNat (mxI 0 (mnI p2 ((x366).size : Int)))) (x366).size)] : List ByteArray)).length 2), (90, .int .i64 ((([(ByteArray.extract x366 0 (Int.toNat (mxI 0 (mnI p2 ((x366).size : Int))))), (ByteArray.extract x366 (Int.toNat (mxI 0 (mnI p2 ((x366).size : Int)))) (x366).size)] : List ByteArray)).length : Int)), (91, .int .i64 x2490), (96, .slice (some ad3074) (t2979.1).length c2985), (97, .int .i64 ((t2979.1).length : Int)), (98, .int .i64 x3036), (104, .bool (((rdD zT50 t2979.1 x3036).Kind) == (1 : Int)))]) rfl ⟨(load1 tab rfl ((Bx.cell f3084.now 0).trans rfl)), trivial⟩ fun a hk => ?_
          refine wpListIn_nil ?_
          refine then_n ?_
          cases b3088 : (((rdD zT50 t2979.1 x3036).Kind) == (1 : Int))
          · rw [b3088] at hk H
            replace H := bifF H
            refine x_if hk (b := false) rfl ?_
            refine (show Code.wpIn _ _ _ _ _ _ _ from ?_)
            refine wpIn_skip ?_
            refine blk_n ?_
            refine then_n ?_
            refine wpIn_region_lit ?_
            refine x_run tab hk (k := 2) (lv := []) (ks := [9, 11, 12, 89, 90, 91, 96, 97, 98]) (e' := [(9, .slice A367 (l369).length c368), (11, .pointer (some ⟨bx376, 0, none⟩)), (12, .slice A3031 (l3033).length c3032), (89, .slice (some ⟨bx1832, 0, none⟩) (([(ByteArray.extract x366 0 (Int.toNat (mxI 0 (mnI p2 ((x366).size : Int))))), (ByteArray.extract x366 (Int.toNat (mxI 0 (mnI p2 ((x366).size : Int)))) (x366).size)] : List ByteArray)).length 2), (90, .int .i64 ((([(ByteArray.extract x366 0 (Int.toNat (mxI 0 (mnI p2 ((x366).size : Int))))), (ByteArray.extract x366 (Int.toNat (mxI 0 (mnI p2 ((x366).size : Int)))) (x366).size)] : List ByteArray)).length : Int)), (91, .int .i64 x2490), (96, .slice (some ad3074) (t2979.1).length c2985), (97, .int .i64 ((t2979.1).length : Int)), (98, .int .i64 (IntKind.wrap .i64 (x3036 + 1)))]) rfl trivial fun a hk => ?_
            refine wpListIn_nil ?_
            refine then_n ?_
            exact ⟨k3069, Nat.le_refl _, o3086, A3031, c3032, l3033, (IntKind.wrap .i64 (x3036 + 1)), (by exact Kn.pick (ks := [9, 11, 12, 89, 90, 91, 96, 97, 98]) hk rfl), hs, f1834, f2986, f2988, f2991, f3034, f370, fg3, hc3035, (hlp3071 ▸ H)⟩
          · rw [b3088] at hk H
            replace H := bifT H
            refine x_if hk (b := true) rfl ?_
            refine (show Code.wpIn _ _ _ _ _ _ _ from ?_)
            refine wpIn_region_lit ?_
            refine x_run tab hk (k := 3) (lv := [.int .i32 ((rdD zT50 t2979.1 x3036).Rune)]) (ks := [9, 11, 89, 90, 91, 96, 97, 98, 105, 107]) (e' := [(9, .slice A367 (l369).length c368), (11, .pointer (some ⟨bx376, 0, none⟩)), (89, .slice (some ⟨bx1832, 0, none⟩) (([(ByteArray.extract x366 0 (Int.toNat (mxI 0 (mnI p2 ((x366).size : Int))))), (ByteArray.extract x366 (Int.toNat (mxI 0 (mnI p2 ((x366).size : Int)))) (x366).size)] : List ByteArray)).length 2), (90, .int .i64 ((([(ByteArray.extract x366 0 (Int.toNat (mxI 0 (mnI p2 ((x366).size : Int))))), (ByteArray.extract x366 (Int.toNat (mxI 0 (mnI p2 ((x366).size : Int)))) (x366).size)] : List ByteArray)).length : Int)), (91, .int .i64 x2490), (96, .slice (some ad3074) (t2979.1).length c2985), (97, .int .i64 ((t2979.1).length : Int)), (98, .int .i64 x3036), (105, .slice A3031 (l3033).length c3032), (107, .int .i32 ((rdD zT50 t2979.1 x3036).Rune))]) rfl ⟨(load1 tab rfl ((Bx.cell f3084.now 1).trans rfl)), trivial⟩ fun a hk => ?_
            refine x_op hk rfl ?_
            refine op_slice (o := o3086) tab hk (vs := [.int .i32 ((rdD zT50 t2979.1 x3036).Rune)]) (cs := [.int .i32 ((rdD zT50 t2979.1 x3036).Rune)]) rfl rfl rfl rfl rfl rfl rfl rfl rfl 447 fun bx3092 w3089 o3090 st3091 f3093 => ?_
            replace f1834 := f1834.st st3091 (by decide)
            replace f2986 := f2986.st st3091 (by decide)
            replace f2988 := f2988.st st3091 (by decide)
            replace f2991 := f2991.st st3091 (by decide)
            replace f3034 := f3034.st st3091 (by decide)
            replace f370 := f370.st st3091 (by decide)
            replace fg3 := fg3.st st3091 (by decide)
            replace hs := hs.loc0 st3091 (by decide)
            have f3094 : Ft (Own (encInt .i32) 21 (.slice (some ⟨bx3092, 0, none⟩) (([(rdD zT50 t2979.1 x3036).Rune] : List Int)).length 1) ([(rdD zT50 t2979.1 x3036).Rune] : List Int)) w3089 o3090 447 := f3093.imp fun _ h_ => Own.of_box h_ rfl (by simp)
            have hk := hk.put 108 (.slice (some ⟨bx3092, 0, none⟩) (([(rdD zT50 t2979.1 x3036).Rune] : List Int)).length 1) rfl
            refine x_op hk rfl ?_
            obtain ⟨q3098, H⟩ := ifS H
            refine op_append (o := o3090) (E := (encInt .i32)) (xs := l3033) (ys := ([(rdD zT50 t2979.1 x3036).Rune] : List Int)) tab hk rfl rfl rfl rfl rfl rfl rfl f3034 (Own.rd f3094.now) q3098 fun A3099 c3100 w3095 o3096 st3097 f3101 hc3102 => ?_
            replace f1834 := f1834.st st3097 (by decide)
            replace f2986 := f2986.st st3097 (by decide)
            replace f2988 := f2988.st st3097 (by decide)
            replace f2991 := f2991.st st3097 (by decide)
            replace f3094 := f3094.st st3097 (by decide)
            replace f370 := f370.st st3097 (by decide)
            replace fg3 := fg3.st st3097 (by decide)
            replace hs := hs.loc0 st3097 (by decide)
            have hk := hk.put 109 (.slice A3099 ((l3033 ++ ([(rdD zT50 t2979.1 x3036).Rune] : List Int))).length c3100) rfl
            refine x_run tab hk (k := 1) (lv := []) (ks := [9, 11, 12, 89, 90, 91, 96, 97, 98]) (e' := [(9, .slice A367 (l369).length c368), (11, .pointer (some ⟨bx376, 0, none⟩)), (12, .slice A3099 ((l3033 ++ ([(rdD zT50 t2979.1 x3036).Rune] : List Int))).length c3100), (89, .slice (some ⟨bx1832, 0, none⟩) (([(ByteArray.extract x366 0 (Int.toNat (mxI 0 (mnI p2 ((x366).size : Int))))), (ByteArray.extract x366 (Int.toNat (mxI 0 (mnI p2 ((x366).size : Int)))) (x366).size)] : List ByteArray)).length 2), (90, .int .i64 ((([(ByteArray.extract x366 0 (Int.toNat (mxI 0 (mnI p2 ((x366).size : Int))))), (ByteArray.extract x366 (Int.toNat (mxI 0 (mnI p2 ((x366).size : Int)))) (x366).size)] : List ByteArray)).length : Int)), (91, .int .i64 x2490), (96, .slice (some ad3074) (t2979.1).length c2985), (97, .int .i64 ((t2979.1).length : Int)), (98, .int .i64 x3036)]) rfl trivial fun a hk => ?_
            refine wpListIn_nil ?_
            refine blk_n ?_
            refine then_n ?_
            refine wpIn_region_lit ?_
            refine x_run tab hk (k := 2) (lv := []) (ks := [9, 11, 12, 89, 90, 91, 96, 97, 98]) (e' := [(9, .slice A367 (l369).length c368), (11, .pointer (some ⟨bx376, 0, none⟩)), (12, .slice A3099 ((l3033 ++ ([(rdD zT50 t2979.1 x3036).Rune] : List Int))).length c3100), (89, .slice (some ⟨bx1832, 0, none⟩) (([(ByteArray.extract x366 0 (Int.toNat (mxI 0 (mnI p2 ((x366).size : Int))))), (ByteArray.extract x366 (Int.toNat (mxI 0 (mnI p2 ((x366).size : Int)))) (x366).size)] : List ByteArray)).length 2), (90, .int .i64 ((([(ByteArray.extract x366 0 (Int.toNat (mxI 0 (mnI p2 ((x366).size : Int))))), (ByteArray.extract x366 (Int.toNat (mxI 0 (mnI p2 ((x366).size : Int)))) (x366).size)] : List ByteArray)).length : Int)), (91, .int .i64 x2490), (96, .slice (some ad3074) (t2979.1).length c2985), (97, .int .i64 ((t2979.1).length : Int)), (98, .int .i64 (IntKind.wrap .i64 (x3036 + 1)))]) rfl trivial fun a hk => ?_
            refine wpListIn_nil ?_
            refine then_n ?_
            exact ⟨k3069, Nat.le_refl _, o3096, A3099, c3100, (l3033 ++ ([(rdD zT50 t2979.1 x3036).Rune] : List Int)), (IntKind.wrap .i64 (x3036 + 1)), (by exact Kn.pick (ks := [9, 11, 12, 89, 90, 91, 96, 97, 98]) hk rfl), hs, f1834, f2986, f2988, f2991, f3101, f370, fg3, hc3102, (hlp3071 ▸ H)⟩
    refine x_seq ?_
    refine wpIn_region_lit ?_
    refine x_run tab hk (k := 1) (lv := []) (ks := [0, 1, 2, 7, 8, 9, 10]) (e' := [(0, .slice Ap0 (p0).length cp0), (1, .slice Ap1 (p1).length cp1), (2, .int .i64 p2), (7, .slice (some ⟨bx17, 0, none⟩) (([(⟨#[]⟩ : ByteArray), (⟨#[27, 91, 51, 49, 109]⟩ : ByteArray), (⟨#[27, 93, 48, 59, 120, 7]⟩ : ByteArray), (⟨#[27, 91, 63, 50, 53, 108]⟩ : ByteArray), (⟨#[27, 40, 66]⟩ : ByteArray), (⟨#[27, 91, 50, 59, 51, 72]⟩ : ByteArray), (⟨#[27, 55]⟩ : ByteArray)] : List ByteArray)).length 7), (8, .string (⟨#[]⟩ : ByteArray)), (9, .slice none 0 0), (10, .int .i64 0)]) rfl trivial fun a hk => ?_
    refine wpListIn_nil ?_
    refine then_n ?_
    refine wpIn_block ?_
    refine x_loop (fun j_ a_ w_ => ∃ o3211 : Nat → Nat, ∃ A3212 : Option Addr, ∃ c3213 : Nat, ∃ x3216 : ByteArray, ∃ A3217 : Option Addr, ∃ c3218 : Nat, ∃ l3219 : List Int, ∃ x3222 : Int, Kn 132 a_ [(0, .slice A3212 (p0).length c3213), (1, .slice Ap1 (p1).length cp1), (2, .int .i64 p2), (7, .slice (some ⟨bx17, 0, none⟩) (([(⟨#[]⟩ : ByteArray), (⟨#[27, 91, 51, 49, 109]⟩ : ByteArray), (⟨#[27, 93, 48, 59, 120, 7]⟩ : ByteArray), (⟨#[27, 91, 63, 50, 53, 108]⟩ : ByteArray), (⟨#[27, 40, 66]⟩ : ByteArray), (⟨#[27, 91, 50, 59, 51, 72]⟩ : ByteArray), (⟨#[27, 55]⟩ : ByteArray)] : List ByteArray)).length 7), (8, .string x3216), (9, .slice A3217 (l3219).length c3218), (10, .int .i64 x3222)] ∧ St [] w (fun _ => 0) w_ o3211 ∧ Ft (Own encStr 9 (.slice (some ⟨bx17, 0, none⟩) (([(⟨#[]⟩ : ByteArray), (⟨#[27, 91, 51, 49, 109]⟩ : ByteArray), (⟨#[27, 93, 48, 59, 120, 7]⟩ : ByteArray), (⟨#[27, 91, 63, 50, 53, 108]⟩ : ByteArray), (⟨#[27, 40, 66]⟩ : ByteArray), (⟨#[27, 91, 50, 59, 51, 72]⟩ : ByteArray), (⟨#[27, 55]⟩ : ByteArray)] : List ByteArray)).length 7) ([(⟨#[]⟩ : ByteArray), (⟨#[27, 91, 51, 49, 109]⟩ : ByteArray), (⟨#[27, 93, 48, 59, 120, 7]⟩ : ByteArray), (⟨#[27, 91, 63, 50, 53, 108]⟩ : ByteArray), (⟨#[27, 40, 66]⟩ : ByteArray), (⟨#[27, 91, 50, 59, 51, 72]⟩ : ByteArray), (⟨#[27, 55]⟩ : ByteArray)] : List ByteArray)) w_ o3211 456 ∧ Ft (RdC (encInt .i32) A3212 p0) w_ o3211 0 ∧ Ft (Own (encInt .i32) 21 (.slice A3217 (l3219).length c3218) l3219) w_ o3211 457 ∧ Ft (RdC (encInt .i64) Ap1 p1) w_ o3211 0 ∧ Ft (RdC ET192 (some ⟨3, 0, none⟩) glob3) w_ o3211 0 ∧ (p0).length ≤ c3213 ∧ (l3219).length ≤ c3218 ∧ tidewracktop_TidewrackPrinted_l8 K p0 p1 p2 j_ x3216 l3219 x3222 = some r) (k := K) ⟨(fun b_ => (fun l_ => if l_ = 3 then 456 else l_) (o15 b_)), Ap0, cp0, (⟨#[]⟩ : ByteArray), none, 0, ([] : List Int), 0, (by exact Kn.pick (ks := [0, 1, 2, 7, 8, 9, 10]) hk rfl), (hs.relab0 (fun l_ => if l_ = 3 then 456 else l_) rfl), (f19.relab (fun l_ => if l_ = 3 then 456 else l_) rfl), (f900000.relab (fun l_ => if l_ = 3 then 456 else l_) rfl), (Ft.of_all (fun _ => Own.nil _ _ _) _ _ _), (f900020.relab (fun l_ => if l_ = 3 then 456 else l_) rfl), (fg3.relab (fun l_ => if l_ = 3 then 456 else l_) rfl), hcp0, (by simp), H⟩ (by rintro _ _ ⟨_, _, _, _, _, _, _, _, _, _, _, _, _, _, _, _, _, H_⟩; exact absurd (show (none : Option Bool) = some r from H_) (by simp)) ?_
    rintro k3329 a w3328 ⟨o3211, A3212, c3213, x3216, A3217, c3218, l3219, x3222, hk, hs, f19, f3214, f3220, f900020, fg3, hc3215, hc3221, H⟩
    rw [tidewracktop_TidewrackPrinted_l8] at H
    obtain ⟨lp3330, hlp3331⟩ : ∃ lp_, lp_ = tidewracktop_TidewrackPrinted_l8 K p0 p1 p2 k3329 := ⟨_, rfl⟩
    rw [← hlp3331] at H
    refine x_mid (fun a_ w_ => ∃ o3337 : Nat → Nat, Kn 132 a_ [(0, .slice A3212 (p0).length c3213), (1, .slice Ap1 (p1).length cp1), (2, .int .i64 p2), (7, .slice (some ⟨bx17, 0, none⟩) (([(⟨#[]⟩ : ByteArray), (⟨#[27, 91, 51, 49, 109]⟩ : ByteArray), (⟨#[27, 93, 48, 59, 120, 7]⟩ : ByteArray), (⟨#[27, 91, 63, 50, 53, 108]⟩ : ByteArray), (⟨#[27, 40, 66]⟩ : ByteArray), (⟨#[27, 91, 50, 59, 51, 72]⟩ : ByteArray), (⟨#[27, 55]⟩ : ByteArray)] : List ByteArray)).length 7), (8, .string x3216), (9, .slice A3217 (l3219).length c3218), (10, .int .i64 x3222)] ∧ St [] w (fun _ => 0) w_ o3337 ∧ Ft (Own encStr 9 (.slice (some ⟨bx17, 0, none⟩) (([(⟨#[]⟩ : ByteArray), (⟨#[27, 91, 51, 49, 109]⟩ : ByteArray), (⟨#[27, 93, 48, 59, 120, 7]⟩ : ByteArray), (⟨#[27, 91, 63, 50, 53, 108]⟩ : ByteArray), (⟨#[27, 40, 66]⟩ : ByteArray), (⟨#[27, 91, 50, 59, 51, 72]⟩ : ByteArray), (⟨#[27, 55]⟩ : ByteArray)] : List ByteArray)).length 7) ([(⟨#[]⟩ : ByteArray), (⟨#[27, 91, 51, 49, 109]⟩ : ByteArray), (⟨#[27, 93, 48, 59, 120, 7]⟩ : ByteArray), (⟨#[27, 91, 63, 50, 53, 108]⟩ : ByteArray), (⟨#[27, 40, 66]⟩ : ByteArray), (⟨#[27, 91, 50, 59, 51, 72]⟩ : ByteArray), (⟨#[27, 55]⟩ : ByteArray)] : List ByteArray)) w_ o3337 467 ∧ Ft (RdC (encInt .i32) A3212 p0) w_ o3337 0 ∧ Ft (Own (encInt .i32) 21 (.slice A3217 (l3219).length c3218) l3219) w_ o3337 468 ∧ Ft (RdC (encInt .i64) Ap1 p1) w_ o3337 0 ∧ Ft (RdC ET192 (some ⟨3, 0, none⟩) glob3) w_ o3337 0 ∧ tidewracktop_TidewrackPrinted_j9 K p0 p1 x3216 l3219 x3222 lp3330 = some r) ?_ ?_
    rotate_left
    · rintro a w3338 ⟨o3337, hk, hs, f19, f3214, f3220, f900020, fg3, H⟩
      rw [tidewracktop_TidewrackPrinted_j9] at H
      refine x_seq ?_
      refine wpIn_block ?_
      refine x_mid (fun a_ w_ => ∃ o3351 : Nat → Nat, ∃ x3352 : ByteArray, Kn 132 a_ [(0, .slice A3212 (p0).length c3213), (1, .slice Ap1 (p1).length cp1), (2, .int .i64 p2), (7, .slice (some ⟨bx17, 0, none⟩) (([(⟨#[]⟩ : ByteArray), (⟨#[27, 91, 51, 49, 109]⟩ : ByteArray), (⟨#[27, 93, 48, 59, 120, 7]⟩ : ByteArray), (⟨#[27, 91, 63, 50, 53, 108]⟩ : ByteArray), (⟨#[27, 40, 66]⟩ : ByteArray), (⟨#[27, 91, 50, 59, 51, 72]⟩ : ByteArray), (⟨#[27, 55]⟩ : ByteArray)] : List ByteArray)).length 7), (8, .string x3352), (9, .slice A3217 (l3219).length c3218), (10, .int .i64 x3222)] ∧ St [] w (fun _ => 0) w_ o3351 ∧ Ft (Own encStr 9 (.slice (some ⟨bx17, 0, none⟩) (([(⟨#[]⟩ : ByteArray), (⟨#[27, 91, 51, 49, 109]⟩ : ByteArray), (⟨#[27, 93, 48, 59, 120, 7]⟩ : ByteArray), (⟨#[27, 91, 63, 50, 53, 108]⟩ : ByteArray), (⟨#[27, 40, 66]⟩ : ByteArray), (⟨#[27, 91, 50, 59, 51, 72]⟩ : ByteArray), (⟨#[27, 55]⟩ : ByteArray)] : List ByteArray)).length 7) ([(⟨#[]⟩ : ByteArray), (⟨#[27, 91, 51, 49, 109]⟩ : ByteArray), (⟨#[27, 93, 48, 59, 120, 7]⟩ : ByteArray), (⟨#[27, 91, 63, 50, 53, 108]⟩ : ByteArray), (⟨#[27, 40, 66]⟩ : ByteArray), (⟨#[27, 91, 50, 59, 51, 72]⟩ : ByteArray), (⟨#[27, 55]⟩ : ByteArray)] : List ByteArray)) w_ o3351 469 ∧ Ft (RdC (encInt .i32) A3212 p0) w_ o3351 0 ∧ Ft (Own (encInt .i32) 21 (.slice A3217 (l3219).length c3218) l3219) w_ o3351 470 ∧ Ft (RdC (encInt .i64) Ap1 p1) w_ o3351 0 ∧ Ft (RdC ET192 (some ⟨3, 0, none⟩) glob3) w_ o3351 0 ∧ tidewracktop_TidewrackPrinted_j10 K p0 l3219 x3222 lp3330 x3352 = some r) ?_ ?_
      rotate_left
      · rintro a w3353 ⟨o3351, x3352, hk, hs, f19, f3214, f3220, f900020, fg3, H⟩
        rw [tidewracktop_TidewrackPrinted_j10] at H
        refine x_mid (fun a_ w_ => ∃ o3367 : Nat → Nat, ∃ A3368 : Option Addr, ∃ c3369 : Nat, ∃ x3372 : Bool, Kn 132 a_ [(0, .slice A3368 (p0).length c3369), (1, .slice Ap1 (p1).length cp1), (2, .int .i64 p2), (7, .slice (some ⟨bx17, 0, none⟩) (([(⟨#[]⟩ : ByteArray), (⟨#[27, 91, 51, 49, 109]⟩ : ByteArray), (⟨#[27, 93, 48, 59, 120, 7]⟩ : ByteArray), (⟨#[27, 91, 63, 50, 53, 108]⟩ : ByteArray), (⟨#[27, 40, 66]⟩ : ByteArray), (⟨#[27, 91, 50, 59, 51, 72]⟩ : ByteArray), (⟨#[27, 55]⟩ : ByteArray)] : List ByteArray)).length 7), (8, .string x3352), (9, .slice A3217 (l3219).length c3218), (10, .int .i64 x3222), (60, .bool x3372)] ∧ St [] w (fun _ => 0) w_ o3367 ∧ Ft (Own encStr 9 (.slice (some ⟨bx17, 0, none⟩) (([(⟨#[]⟩ : ByteArray), (⟨#[27, 91, 51, 49, 109]⟩ : ByteArray), (⟨#[27, 93, 48, 59, 120, 7]⟩ : ByteArray), (⟨#[27, 91, 63, 50, 53, 108]⟩ : ByteArray), (⟨#[27, 40, 66]⟩ : ByteArray), (⟨#[27, 91, 50, 59, 51, 72]⟩ : ByteArray), (⟨#[27, 55]⟩ : ByteArray)] : List ByteArray)).length 7) ([(⟨#[]⟩ : ByteArray), (⟨#[27, 91, 51, 49, 109]⟩ : ByteArray), (⟨#[27, 93, 48, 59, 120, 7]⟩ : ByteArray), (⟨#[27, 91, 63, 50, 53, 108]⟩ : ByteArray), (⟨#[27, 40, 66]⟩ : ByteArray), (⟨#[27, 91, 50, 59, 51, 72]⟩ : ByteArray), (⟨#[27, 55]⟩ : ByteArray)] : List ByteArray)) w_ o3367 471 ∧ Ft (Own (encInt .i32) 21 (.slice A3217 (l3219).length c3218) l3219) w_ o3367 472 ∧ Ft (RdC (encInt .i32) A3368 p0) w_ o3367 0 ∧ Ft (RdC (encInt .i64) Ap1 p1) w_ o3367 0 ∧ Ft (RdC ET192 (some ⟨3, 0, none⟩) glob3) w_ o3367 0 ∧ (p0).length ≤ c3369 ∧ tidewracktop_TidewrackPrinted_j11 K p0 l3219 x3222 lp3330 x3352 x3372 = some r) ?_ ?_
        rotate_left
        · rintro a w3373 ⟨o3367, A3368, c3369, x3372, hk, hs, f19, f3220, f3370, f900020, fg3, hc3371, H⟩
          rw [tidewracktop_TidewrackPrinted_j11] at H
          cases b3374 : x3372
          · rw [b3374] at hk H
            replace H := bifF H
            refine x_if hk (b := false) rfl ?_
            refine (show Code.wpIn _ _ _ _ _ _ _ from ?_)
            refine wpIn_skip ?_
            refine blk_n ?_
            refine then_n ?_
            refine wpIn_region_lit ?_
            refine x_run tab hk (k := 3) (lv := []) (ks := [0, 1, 2, 7, 8, 9, 10]) (e' := [(0, .slice A3368 (p0).length c3369), (1, .slice Ap1 (p1).length cp1), (2, .int .i64 p2), (7, .slice (some ⟨bx17, 0, none⟩) (([(⟨#[]⟩ : ByteArray), (⟨#[27, 91, 51, 49, 109]⟩ : ByteArray), (⟨#[27, 93, 48, 59, 120, 7]⟩ : ByteArray), (⟨#[27, 91, 63, 50, 53, 108]⟩ : ByteArray), (⟨#[27, 40, 66]⟩ : ByteArray), (⟨#[27, 91, 50, 59, 51, 72]⟩ : ByteArray), (⟨#[27, 55]⟩ : ByteArray)] : List ByteArray)).length 7), (8, .string x3352), (9, .slice A3217 (l3219).length c3218), (10, .int .i64 (IntKind.wrap .i64 (x3222 + 1)))]) rfl trivial fun a hk => ?_
            refine wpListIn_nil ?_
            refine then_n ?_
            exact ⟨k3329, Nat.le_refl _, (fun b_ => (fun l_ => if l_ = 471 then 456 else if l_ = 472 then 457 else l_) (o3367 b_)), A3368, c3369, x3352, A3217, c3218, l3219, (IntKind.wrap .i64 (x3222 + 1)), (by exact Kn.pick (ks := [0, 1, 2, 7, 8, 9, 10]) hk rfl), (hs.relab0 (fun l_ => if l_ = 471 then 456 else if l_ = 472 then 457 else l_) rfl), (f19.relab (fun l_ => if l_ = 471 then 456 else if l_ = 472 then 457 else l_) rfl), (f3370.relab (fun l_ => if l_ = 471 then 456 else if l_ = 472 then 457 else l_) rfl), (f3220.relab (fun l_ => if l_ = 471 then 456 else if l_ = 472 then 457 else l_) rfl), (f900020.relab (fun l_ => if l_ = 471 then 456 else if l_ = 472 then 457 else l_) rfl), (fg3.relab (fun l_ => if l_ = 471 then 456 else if l_ = 472 then 457 else l_) rfl), hc3371, hc3221, (hlp3331 ▸ H)⟩
          · rw [b3374] at hk H
            replace H := bifT H
            refine x_if hk (b := true) rfl ?_
            refine (show Code.wpIn _ _ _ _ _ _ _ from ?_)
            refine x_seq ?_
            refine wpIn_region_lit ?_
            obtain ⟨q3375, H⟩ := ifS H
            obtain ⟨ad3376, hAad3376⟩ := RdC.addr f3370.now q3375
            have hk_C := hk
            have f19_C := f19
            have f3220_C := f3220
            have f3370_C := f3370
            have f900020_C := f900020
            have fg3_C := fg3
            subst hAad3376
            have hk := hk_C
            clear hk_C
            have f19 := f19_C
            clear f19_C
            have f3220 := f3220_C
            clear f3220_C
            have f3370 := f3370_C
            clear f3370_C
            have f900020 := f900020_C
            clear f900020_C
            have fg3 := fg3_C
            clear fg3_C
            refine x_run tab hk (k := 5) (lv := [.int .i32 (rdD 0 p0 x3222)]) (ks := [0, 1, 2, 7, 9, 10, 61, 65]) (e' := [(0, .slice (some ad3376) (p0).length c3369), (1, .slice Ap1 (p1).length cp1), (2, .int .i64 p2), (7, .slice (some ⟨bx17, 0, none⟩) (([(⟨#[]⟩ : ByteArray), (⟨#[27, 91, 51, 49, 109]⟩ : ByteArray), (⟨#[27, 93, 48, 59, 120, 7]⟩ : ByteArray), (⟨#[27, 91, 63, 50, 53, 108]⟩ : ByteArray), (⟨#[27, 40, 66]⟩ : ByteArray), (⟨#[27, 91, 50, 59, 51, 72]⟩ : ByteArray), (⟨#[27, 55]⟩ : ByteArray)] : List ByteArray)).length 7), (9, .slice A3217 (l3219).length c3218), (10, .int .i64 x3222), (61, .string x3352), (65, .int .i32 (rdD 0 p0 x3222))]) rfl ⟨q3375, (load1 tab rfl (RdC.at0 (E := (encInt .i32)) (d := 0) (i := x3222) f3370.now q3375 rfl)), trivial⟩ fun a hk => ?_
            refine x_op hk rfl ?_
            refine op_slice (o := o3367) tab hk (vs := [.int .i32 (rdD 0 p0 x3222)]) (cs := [.int .i32 (rdD 0 p0 x3222)]) rfl rfl rfl rfl rfl rfl rfl rfl rfl 473 fun bx3380 w3377 o3378 st3379 f3381 => ?_
            replace f19 := f19.st st3379 (by decide)
            replace f3220 := f3220.st st3379 (by decide)
            replace f3370 := f3370.st st3379 (by decide)
            replace f900020 := f900020.st st3379 (by decide)
            replace fg3 := fg3.st st3379 (by decide)
            replace hs := hs.loc0 st3379 (by decide)
            have f3382 : Ft (Own (encInt .i32) 21 (.slice (some ⟨bx3380, 0, none⟩) (([(rdD 0 p0 x3222)] : List Int)).length 1) ([(rdD 0 p0 x3222)] : List Int)) w3377 o3378 473 := f3381.imp fun _ h_ => Own.of_box h_ rfl (by simp)
            have hk := hk.put 66 (.slice (some ⟨bx3380, 0, none⟩) (([(rdD 0 p0 x3222)] : List Int)).length 1) rfl
            refine x_op hk rfl ?_
            obtain ⟨t3386, hc3387, H⟩ := bindS H
            refine op_call hk ent_13 (vs := [.slice (some ⟨bx3380, 0, none⟩) (([(rdD 0 p0 x3222)] : List Int)).length 1]) rfl (glyph_Encode_calls K (some ⟨bx3380, 0, none⟩) 1 ([(rdD 0 p0 x3222)] : List Int) _ o3378 _ (f3382.imp fun _ h_ => Own.rd h_) (Nat.le_refl _)   _ hc3387) ?_
            rintro _ w3388 ⟨o3389, rfl, st3390⟩
            replace f19 := f19.st st3390 (by decide)
            replace f3220 := f3220.st st3390 (by decide)
            replace f3370 := f3370.st st3390 (by decide)
            replace f3382 := f3382.st st3390 (by decide)
            replace f900020 := f900020.st st3390 (by decide)
            replace fg3 := fg3.st st3390 (by decide)
            replace hs := hs.loc0 st3390 (by decide)
            have hk := hk.put 67 (.string t3386) rfl
            obtain ⟨q3391, H⟩ := ifS H
            refine x_run tab hk (k := 2) (lv := []) (ks := [0, 1, 2, 7, 8, 9, 10]) (e' := [(0, .slice (some ad3376) (p0).length c3369), (1, .slice Ap1 (p1).length cp1), (2, .int .i64 p2), (7, .slice (some ⟨bx17, 0, none⟩) (([(⟨#[]⟩ : ByteArray), (⟨#[27, 91, 51, 49, 109]⟩ : ByteArray), (⟨#[27, 93, 48, 59, 120, 7]⟩ : ByteArray), (⟨#[27, 91, 63, 50, 53, 108]⟩ : ByteArray), (⟨#[27, 40, 66]⟩ : ByteArray), (⟨#[27, 91, 50, 59, 51, 72]⟩ : ByteArray), (⟨#[27, 55]⟩ : ByteArray)] : List ByteArray)).length 7), (8, .string (x3352 ++ t3386)), (9, .slice A3217 (l3219).length c3218), (10, .int .i64 x3222)]) rfl ⟨q3391, trivial⟩ fun a hk => ?_
            refine wpListIn_nil ?_
            refine then_n ?_
            refine wpIn_region_lit ?_
            refine x_run tab hk (k := 5) (lv := [.int .i32 (rdD 0 p0 x3222)]) (ks := [0, 1, 2, 7, 8, 10, 69, 73]) (e' := [(0, .slice (some ad3376) (p0).length c3369), (1, .slice Ap1 (p1).length cp1), (2, .int .i64 p2), (7, .slice (some ⟨bx17, 0, none⟩) (([(⟨#[]⟩ : ByteArray), (⟨#[27, 91, 51, 49, 109]⟩ : ByteArray), (⟨#[27, 93, 48, 59, 120, 7]⟩ : ByteArray), (⟨#[27, 91, 63, 50, 53, 108]⟩ : ByteArray), (⟨#[27, 40, 66]⟩ : ByteArray), (⟨#[27, 91, 50, 59, 51, 72]⟩ : ByteArray), (⟨#[27, 55]⟩ : ByteArray)] : List ByteArray)).length 7), (8, .string (x3352 ++ t3386)), (10, .int .i64 x3222), (69, .slice A3217 (l3219).length c3218), (73, .int .i32 (rdD 0 p0 x3222))]) rfl ⟨q3375, (load1 tab rfl (RdC.at0 (E := (encInt .i32)) (d := 0) (i := x3222) f3370.now q3375 rfl)), trivial⟩ fun a hk => ?_
            refine x_op hk rfl ?_
            refine op_slice (o := o3389) tab hk (vs := [.int .i32 (rdD 0 p0 x3222)]) (cs := [.int .i32 (rdD 0 p0 x3222)]) rfl rfl rfl rfl rfl rfl rfl rfl rfl 474 fun bx3395 w3392 o3393 st3394 f3396 => ?_
            replace f19 := f19.st st3394 (by decide)
            replace f3220 := f3220.st st3394 (by decide)
            replace f3370 := f3370.st st3394 (by decide)
            replace f900020 := f900020.st st3394 (by decide)
            replace fg3 := fg3.st st3394 (by decide)
            replace hs := hs.loc0 st3394 (by decide)
            have f3397 : Ft (Own (encInt .i32) 21 (.slice (some ⟨bx3395, 0, none⟩) (([(rdD 0 p0 x3222)] : List Int)).length 1) ([(rdD 0 p0 x3222)] : List Int)) w3392 o3393 474 := f3396.imp fun _ h_ => Own.of_box h_ rfl (by simp)
            have hk := hk.put 74 (.slice (some ⟨bx3395, 0, none⟩) (([(rdD 0 p0 x3222)] : List Int)).length 1) rfl
            refine x_op hk rfl ?_
            obtain ⟨t3401, hc3402, H⟩ := bindS H
            refine op_call hk ent_13 (vs := [.slice (some ⟨bx3395, 0, none⟩) (([(rdD 0 p0 x3222)] : List Int)).length 1]) rfl (glyph_Encode_calls K (some ⟨bx3395, 0, none⟩) 1 ([(rdD 0 p0 x3222)] : List Int) _ o3393 _ (f3397.imp fun _ h_ => Own.rd h_) (Nat.le_refl _)   _ hc3402) ?_
            rintro _ w3403 ⟨o3404, rfl, st3405⟩
            replace f19 := f19.st st3405 (by decide)
            replace f3220 := f3220.st st3405 (by decide)
            replace f3370 := f3370.st st3405 (by decide)
            replace f3397 := f3397.st st3405 (by decide)
            replace f900020 := f900020.st st3405 (by decide)
            replace fg3 := fg3.st st3405 (by decide)
            replace hs := hs.loc0 st3405 (by decide)
            have hk := hk.put 75 (.string t3401) rfl
            refine x_op hk rfl ?_
            obtain ⟨t3409, hc3410, H⟩ := bindS H
            refine op_call hk ent_9 (vs := [.string t3401]) rfl (glyph_Decode_calls K t3401 _ o3404 0 fg3 475  _ hc3410) ?_
            rintro _ w3411 ⟨o3412, A3414, c3415, rfl, st3413, f3416, hc3417⟩
            replace f19 := f19.st st3413 (by decide)
            replace f3220 := f3220.st st3413 (by decide)
            replace f3370 := f3370.st st3413 (by decide)
            replace f3397 := f3397.st st3413 (by decide)
            replace f900020 := f900020.st st3413 (by decide)
            replace fg3 := fg3.st st3413 (by decide)
            replace hs := hs.loc0 st3413 (by decide)
            have hk := hk.put 76 (.slice A3414 (t3409).length c3415) rfl
            refine x_op hk rfl ?_
            obtain ⟨q3421, H⟩ := ifS H
            refine op_append (o := o3412) (E := (encInt .i32)) (xs := l3219) (ys := t3409) tab hk rfl rfl rfl rfl rfl rfl rfl f3220 (Own.rd f3416.now) q3421 fun A3422 c3423 w3418 o3419 st3420 f3424 hc3425 => ?_
            replace f19 := f19.st st3420 (by decide)
            replace f3370 := f3370.st st3420 (by decide)
            replace f3397 := f3397.st st3420 (by decide)
            replace f3416 := f3416.st st3420 (by decide)
            replace f900020 := f900020.st st3420 (by decide)
            replace fg3 := fg3.st st3420 (by decide)
            replace hs := hs.loc0 st3420 (by decide)
            have hk := hk.put 77 (.slice A3422 ((l3219 ++ t3409)).length c3423) rfl
            refine x_run tab hk (k := 1) (lv := []) (ks := [0, 1, 2, 7, 8, 9, 10]) (e' := [(0, .slice (some ad3376) (p0).length c3369), (1, .slice Ap1 (p1).length cp1), (2, .int .i64 p2), (7, .slice (some ⟨bx17, 0, none⟩) (([(⟨#[]⟩ : ByteArray), (⟨#[27, 91, 51, 49, 109]⟩ : ByteArray), (⟨#[27, 93, 48, 59, 120, 7]⟩ : ByteArray), (⟨#[27, 91, 63, 50, 53, 108]⟩ : ByteArray), (⟨#[27, 40, 66]⟩ : ByteArray), (⟨#[27, 91, 50, 59, 51, 72]⟩ : ByteArray), (⟨#[27, 55]⟩ : ByteArray)] : List ByteArray)).length 7), (8, .string (x3352 ++ t3386)), (9, .slice A3422 ((l3219 ++ t3409)).length c3423), (10, .int .i64 x3222)]) rfl trivial fun a hk => ?_
            refine wpListIn_nil ?_
            refine blk_n ?_
            refine then_n ?_
            refine wpIn_region_lit ?_
            refine x_run tab hk (k := 3) (lv := []) (ks := [0, 1, 2, 7, 8, 9, 10]) (e' := [(0, .slice (some ad3376) (p0).length c3369), (1, .slice Ap1 (p1).length cp1), (2, .int .i64 p2), (7, .slice (some ⟨bx17, 0, none⟩) (([(⟨#[]⟩ : ByteArray), (⟨#[27, 91, 51, 49, 109]⟩ : ByteArray), (⟨#[27, 93, 48, 59, 120, 7]⟩ : ByteArray), (⟨#[27, 91, 63, 50, 53, 108]⟩ : ByteArray), (⟨#[27, 40, 66]⟩ : ByteArray), (⟨#[27, 91, 50, 59, 51, 72]⟩ : ByteArray), (⟨#[27, 55]⟩ : ByteArray)] : List ByteArray)).length 7), (8, .string (x3352 ++ t3386)), (9, .slice A3422 ((l3219 ++ t3409)).length c3423), (10, .int .i64 (IntKind.wrap .i64 (x3222 + 1)))]) rfl trivial fun a hk => ?_
            refine wpListIn_nil ?_
            refine then_n ?_
            exact ⟨k3329, Nat.le_refl _, (fun b_ => (fun l_ => if l_ = 471 then 456 else if l_ = 472 then 457 else l_) (o3419 b_)), (some ad3376), c3369, (x3352 ++ t3386), A3422, c3423, (l3219 ++ t3409), (IntKind.wrap .i64 (x3222 + 1)), (by exact Kn.pick (ks := [0, 1, 2, 7, 8, 9, 10]) hk rfl), (hs.relab0 (fun l_ => if l_ = 471 then 456 else if l_ = 472 then 457 else l_) rfl), (f19.relab (fun l_ => if l_ = 471 then 456 else if l_ = 472 then 457 else l_) rfl), (f3370.relab (fun l_ => if l_ = 471 then 456 else if l_ = 472 then 457 else l_) rfl), (f3424.relab (fun l_ => if l_ = 471 then 456 else if l_ = 472 then 457 else l_) rfl), (f900020.relab (fun l_ => if l_ = 471 then 456 else if l_ = 472 then 457 else l_) rfl), (fg3.relab (fun l_ => if l_ = 471 then 456 else if l_ = 472 then 457 else l_) rfl), hc3371, hc3425, (hlp3331 ▸ H)⟩
        refine wpIn_region_lit ?_
        obtain ⟨q3426, H⟩ := ifS H
        obtain ⟨ad3427, hAad3427⟩ := RdC.addr f3214.now q3426
        have hk_C := hk
        have f19_C := f19
        have f3214_C := f3214
        have f3220_C := f3220
        have f900020_C := f900020
        have fg3_C := fg3
        subst hAad3427
        have hk := hk_C
        clear hk_C
        have f19 := f19_C
        clear f19_C
        have f3214 := f3214_C
        clear f3214_C
        have f3220 := f3220_C
        clear f3220_C
        have f900020 := f900020_C
        clear f900020_C
        have fg3 := fg3_C
        clear fg3_C
        refine x_run tab hk (k := 6) (lv := [.int .i32 (rdD 0 p0 x3222)]) (ks := [0, 1, 2, 7, 8, 9, 10, 54]) (e' := [(0, .slice (some ad3427) (p0).length c3213), (1, .slice Ap1 (p1).length cp1), (2, .int .i64 p2), (7, .slice (some ⟨bx17, 0, none⟩) (([(⟨#[]⟩ : ByteArray), (⟨#[27, 91, 51, 49, 109]⟩ : ByteArray), (⟨#[27, 93, 48, 59, 120, 7]⟩ : ByteArray), (⟨#[27, 91, 63, 50, 53, 108]⟩ : ByteArray), (⟨#[27, 40, 66]⟩ : ByteArray), (⟨#[27, 91, 50, 59, 51, 72]⟩ : ByteArray), (⟨#[27, 55]⟩ : ByteArray)] : List ByteArray)).length 7), (8, .string x3352), (9, .slice A3217 (l3219).length c3218), (10, .int .i64 x3222), (54, .bool (decide ((rdD 0 p0 x3222) ≥ (32 : Int))))]) rfl ⟨q3426, (load1 tab rfl (RdC.at0 (E := (encInt .i32)) (d := 0) (i := x3222) f3214.now q3426 rfl)), trivial⟩ fun a hk => ?_
        cases b3428 : (decide ((rdD 0 p0 x3222) ≥ (32 : Int)))
        · rw [b3428] at hk H
          replace H := bifF H
          refine x_run tab hk (k := 6) (lv := []) (ks := [0, 1, 2, 7, 8, 9, 10, 60]) (e' := [(0, .slice (some ad3427) (p0).length c3213), (1, .slice Ap1 (p1).length cp1), (2, .int .i64 p2), (7, .slice (some ⟨bx17, 0, none⟩) (([(⟨#[]⟩ : ByteArray), (⟨#[27, 91, 51, 49, 109]⟩ : ByteArray), (⟨#[27, 93, 48, 59, 120, 7]⟩ : ByteArray), (⟨#[27, 91, 63, 50, 53, 108]⟩ : ByteArray), (⟨#[27, 40, 66]⟩ : ByteArray), (⟨#[27, 91, 50, 59, 51, 72]⟩ : ByteArray), (⟨#[27, 55]⟩ : ByteArray)] : List ByteArray)).length 7), (8, .string x3352), (9, .slice A3217 (l3219).length c3218), (10, .int .i64 x3222), (60, .bool false)]) rfl trivial fun a hk => ?_
          refine wpListIn_nil ?_
          refine then_n ?_
          exact ⟨(fun b_ => (fun l_ => if l_ = 469 then 471 else if l_ = 470 then 472 else l_) (o3351 b_)), (some ad3427), c3213, false, (by exact Kn.pick (ks := [0, 1, 2, 7, 8, 9, 10, 60]) hk rfl), (hs.relab0 (fun l_ => if l_ = 469 then 471 else if l_ = 470 then 472 else l_) rfl), (f19.relab (fun l_ => if l_ = 469 then 471 else if l_ = 470 then 472 else l_) rfl), (f3220.relab (fun l_ => if l_ = 469 then 471 else if l_ = 470 then 472 else l_) rfl), (f3214.relab (fun l_ => if l_ = 469 then 471 else if l_ = 470 then 472 else l_) rfl), (f900020.relab (fun l_ => if l_ = 469 then 471 else if l_ = 470 then 472 else l_) rfl), (fg3.relab (fun l_ => if l_ = 469 then 471 else if l_ = 470 then 472 else l_) rfl), hc3215, H⟩
        · rw [b3428] at hk H
          replace H := bifT H
          refine x_run tab hk (k := 6) (lv := [.int .i32 (rdD 0 p0 x3222)]) (ks := [0, 1, 2, 7, 8, 9, 10, 60]) (e' := [(0, .slice (some ad3427) (p0).length c3213), (1, .slice Ap1 (p1).length cp1), (2, .int .i64 p2), (7, .slice (some ⟨bx17, 0, none⟩) (([(⟨#[]⟩ : ByteArray), (⟨#[27, 91, 51, 49, 109]⟩ : ByteArray), (⟨#[27, 93, 48, 59, 120, 7]⟩ : ByteArray), (⟨#[27, 91, 63, 50, 53, 108]⟩ : ByteArray), (⟨#[27, 40, 66]⟩ : ByteArray), (⟨#[27, 91, 50, 59, 51, 72]⟩ : ByteArray), (⟨#[27, 55]⟩ : ByteArray)] : List ByteArray)).length 7), (8, .string x3352), (9, .slice A3217 (l3219).length c3218), (10, .int .i64 x3222), (60, .bool ((rdD 0 p0 x3222) != (127 : Int)))]) rfl ⟨q3426, (load1 tab rfl (RdC.at0 (E := (encInt .i32)) (d := 0) (i := x3222) f3214.now q3426 rfl)), trivial⟩ fun a hk => ?_
          refine wpListIn_nil ?_
          refine then_n ?_
          exact ⟨(fun b_ => (fun l_ => if l_ = 469 then 471 else if l_ = 470 then 472 else l_) (o3351 b_)), (some ad3427), c3213, ((rdD 0 p0 x3222) != (127 : Int)), (by exact Kn.pick (ks := [0, 1, 2, 7, 8, 9, 10, 60]) hk rfl), (hs.relab0 (fun l_ => if l_ = 469 then 471 else if l_ = 470 then 472 else l_) rfl), (f19.relab (fun l_ => if l_ = 469 then 471 else if l_ = 470 then 472 else l_) rfl), (f3220.relab (fun l_ => if l_ = 469 then 471 else if l_ = 470 then 472 else l_) rfl), (f3214.relab (fun l_ => if l_ = 469 then 471 else if l_ = 470 then 472 else l_) rfl), (f900020.relab (fun l_ => if l_ = 469 then 471 else if l_ = 470 then 472 else l_) rfl), (fg3.relab (fun l_ => if l_ = 469 then 471 else if l_ = 470 then 472 else l_) rfl), hc3215, H⟩
      refine x_seq ?_
      refine wpIn_region_lit ?_
      refine x_run tab hk (k := 4) (lv := []) (ks := [0, 1, 2, 7, 8, 9, 10, 35]) (e' := [(0, .slice A3212 (p0).length c3213), (1, .slice Ap1 (p1).length cp1), (2, .int .i64 p2), (7, .slice (some ⟨bx17, 0, none⟩) (([(⟨#[]⟩ : ByteArray), (⟨#[27, 91, 51, 49, 109]⟩ : ByteArray), (⟨#[27, 93, 48, 59, 120, 7]⟩ : ByteArray), (⟨#[27, 91, 63, 50, 53, 108]⟩ : ByteArray), (⟨#[27, 40, 66]⟩ : ByteArray), (⟨#[27, 91, 50, 59, 51, 72]⟩ : ByteArray), (⟨#[27, 55]⟩ : ByteArray)] : List ByteArray)).length 7), (8, .string x3216), (9, .slice A3217 (l3219).length c3218), (10, .int .i64 x3222), (35, .bool (decide (x3222 < ((p1).length : Int))))]) rfl trivial fun a hk => ?_
      refine wpListIn_nil ?_
      refine then_n ?_
      cases b3429 : (decide (x3222 < ((p1).length : Int)))
      · rw [b3429] at hk H
        replace H := bifF H
        refine x_if hk (b := false) rfl ?_
        refine (show Code.wpIn _ _ _ _ _ _ _ from ?_)
        refine wpIn_skip ?_
        refine then_n ?_
        exact ⟨(fun b_ => (fun l_ => if l_ = 467 then 469 else if l_ = 468 then 470 else l_) (o3337 b_)), x3216, (by exact Kn.pick (ks := [0, 1, 2, 7, 8, 9, 10]) hk rfl), (hs.relab0 (fun l_ => if l_ = 467 then 469 else if l_ = 468 then 470 else l_) rfl), (f19.relab (fun l_ => if l_ = 467 then 469 else if l_ = 468 then 470 else l_) rfl), (f3214.relab (fun l_ => if l_ = 467 then 469 else if l_ = 468 then 470 else l_) rfl), (f3220.relab (fun l_ => if l_ = 467 then 469 else if l_ = 468 then 470 else l_) rfl), (f900020.relab (fun l_ => if l_ = 467 then 469 else if l_ = 468 then 470 else l_) rfl), (fg3.relab (fun l_ => if l_ = 467 then 469 else if l_ = 468 then 470 else l_) rfl), H⟩
      · rw [b3429] at hk H
        replace H := bifT H
        refine x_if hk (b := true) rfl ?_
        refine (show Code.wpIn _ _ _ _ _ _ _ from ?_)
        refine wpIn_region_lit ?_
        obtain ⟨q3430, H⟩ := ifS H
        obtain ⟨ad3431, hAad3431⟩ := RdC.addr f900020.now q3430
        have hk_C := hk
        have f19_C := f19
        have f3214_C := f3214
        have f3220_C := f3220
        have f900020_C := f900020
        have fg3_C := fg3
        subst hAad3431
        have hk := hk_C
        clear hk_C
        have f19 := f19_C
        clear f19_C
        have f3214 := f3214_C
        clear f3214_C
        have f3220 := f3220_C
        clear f3220_C
        have f900020 := f900020_C
        clear f900020_C
        have fg3 := fg3_C
        clear fg3_C
        obtain ⟨q3432, H⟩ := ifS H
        refine x_run tab hk (k := 10) (lv := [.int .i64 (rdD 0 p1 x3222)]) (ks := [0, 1, 2, 7, 9, 10, 36, 37, 45]) (e' := [(0, .slice A3212 (p0).length c3213), (1, .slice (some ad3431) (p1).length cp1), (2, .int .i64 p2), (7, .slice (some ⟨bx17, 0, none⟩) (([(⟨#[]⟩ : ByteArray), (⟨#[27, 91, 51, 49, 109]⟩ : ByteArray), (⟨#[27, 93, 48, 59, 120, 7]⟩ : ByteArray), (⟨#[27, 91, 63, 50, 53, 108]⟩ : ByteArray), (⟨#[27, 40, 66]⟩ : ByteArray), (⟨#[27, 91, 50, 59, 51, 72]⟩ : ByteArray), (⟨#[27, 55]⟩ : ByteArray)] : List ByteArray)).length 7), (9, .slice A3217 (l3219).length c3218), (10, .int .i64 x3222), (36, .string x3216), (37, .slice (some ⟨bx17, 0, none⟩) (([(⟨#[]⟩ : ByteArray), (⟨#[27, 91, 51, 49, 109]⟩ : ByteArray), (⟨#[27, 93, 48, 59, 120, 7]⟩ : ByteArray), (⟨#[27, 91, 63, 50, 53, 108]⟩ : ByteArray), (⟨#[27, 40, 66]⟩ : ByteArray), (⟨#[27, 91, 50, 59, 51, 72]⟩ : ByteArray), (⟨#[27, 55]⟩ : ByteArray)] : List ByteArray)).length 7), (45, .int .i64 (Int.tmod (bits .and .i64 (rdD 0 p1 x3222) 65535) ((([(⟨#[]⟩ : ByteArray), (⟨#[27, 91, 51, 49, 109]⟩ : ByteArray), (⟨#[27, 93, 48, 59, 120, 7]⟩ : ByteArray), (⟨#[27, 91, 63, 50, 53, 108]⟩ : ByteArray), (⟨#[27, 40, 66]⟩ : ByteArray), (⟨#[27, 91, 50, 59, 51, 72]⟩ : ByteArray), (⟨#[27, 55]⟩ : ByteArray)] : List ByteArray)).length : Int)))]) rfl ⟨q3430, (load1 tab rfl (RdC.at0 (E := (encInt .i64)) (d := 0) (i := x3222) f900020.now q3430 rfl)), q3432, trivial⟩ fun a hk => ?_
        obtain ⟨q3433, H⟩ := ifS H
        obtain ⟨q3434, H⟩ := ifS H
        refine x_run tab hk (k := 4) (lv := [.string (rdD (⟨#[]⟩ : ByteArray) ([(⟨#[]⟩ : ByteArray), (⟨#[27, 91, 51, 49, 109]⟩ : ByteArray), (⟨#[27, 93, 48, 59, 120, 7]⟩ : ByteArray), (⟨#[27, 91, 63, 50, 53, 108]⟩ : ByteArray), (⟨#[27, 40, 66]⟩ : ByteArray), (⟨#[27, 91, 50, 59, 51, 72]⟩ : ByteArray), (⟨#[27, 55]⟩ : ByteArray)] : List ByteArray) (Int.tmod (bits .and .i64 (rdD 0 p1 x3222) 65535) ((([(⟨#[]⟩ : ByteArray), (⟨#[27, 91, 51, 49, 109]⟩ : ByteArray), (⟨#[27, 93, 48, 59, 120, 7]⟩ : ByteArray), (⟨#[27, 91, 63, 50, 53, 108]⟩ : ByteArray), (⟨#[27, 40, 66]⟩ : ByteArray), (⟨#[27, 91, 50, 59, 51, 72]⟩ : ByteArray), (⟨#[27, 55]⟩ : ByteArray)] : List ByteArray)).length : Int)))]) (ks := [0, 1, 2, 7, 8, 9, 10]) (e' := [(0, .slice A3212 (p0).length c3213), (1, .slice (some ad3431) (p1).length cp1), (2, .int .i64 p2), (7, .slice (some ⟨bx17, 0, none⟩) (([(⟨#[]⟩ : ByteArray), (⟨#[27, 91, 51, 49, 109]⟩ : ByteArray), (⟨#[27, 93, 48, 59, 120, 7]⟩ : ByteArray), (⟨#[27, 91, 63, 50, 53, 108]⟩ : ByteArray), (⟨#[27, 40, 66]⟩ : ByteArray), (⟨#[27, 91, 50, 59, 51, 72]⟩ : ByteArray), (⟨#[27, 55]⟩ : ByteArray)] : List ByteArray)).length 7), (8, .string (x3216 ++ (rdD (⟨#[]⟩ : ByteArray) ([(⟨#[]⟩ : ByteArray), (⟨#[27, 91, 51, 49, 109]⟩ : ByteArray), (⟨#[27, 93, 48, 59, 120, 7]⟩ : ByteArray), (⟨#[27, 91, 63, 50, 53, 108]⟩ : ByteArray), (⟨#[27, 40, 66]⟩ : ByteArray), (⟨#[27, 91, 50, 59, 51, 72]⟩ : ByteArray), (⟨#[27, 55]⟩ : ByteArray)] : List ByteArray) (Int.tmod (bits .and .i64 (rdD 0 p1 x3222) 65535) ((([(⟨#[]⟩ : ByteArray), (⟨#[27, 91, 51, 49, 109]⟩ : ByteArray), (⟨#[27, 93, 48, 59, 120, 7]⟩ : ByteArray), (⟨#[27, 91, 63, 50, 53, 108]⟩ : ByteArray), (⟨#[27, 40, 66]⟩ : ByteArray), (⟨#[27, 91, 50, 59, 51, 72]⟩ : ByteArray), (⟨#[27, 55]⟩ : ByteArray)] : List ByteArray)).length : Int))))), (9, .slice A3217 (l3219).length c3218), (10, .int .i64 x3222)]) rfl ⟨q3433, (load1 tab rfl (RdC.at0 (E := encStr) (d := (⟨#[]⟩ : ByteArray)) (i := (Int.tmod (bits .and .i64 (rdD 0 p1 x3222) 65535) ((([(⟨#[]⟩ : ByteArray), (⟨#[27, 91, 51, 49, 109]⟩ : ByteArray), (⟨#[27, 93, 48, 59, 120, 7]⟩ : ByteArray), (⟨#[27, 91, 63, 50, 53, 108]⟩ : ByteArray), (⟨#[27, 40, 66]⟩ : ByteArray), (⟨#[27, 91, 50, 59, 51, 72]⟩ : ByteArray), (⟨#[27, 55]⟩ : ByteArray)] : List ByteArray)).length : Int))) (Own.rd f19.now) q3433 rfl)), q3434, trivial⟩ fun a hk => ?_
        refine wpListIn_nil ?_
        refine then_n ?_
        exact ⟨(fun b_ => (fun l_ => if l_ = 467 then 469 else if l_ = 468 then 470 else l_) (o3337 b_)), (x3216 ++ (rdD (⟨#[]⟩ : ByteArray) ([(⟨#[]⟩ : ByteArray), (⟨#[27, 91, 51, 49, 109]⟩ : ByteArray), (⟨#[27, 93, 48, 59, 120, 7]⟩ : ByteArray), (⟨#[27, 91, 63, 50, 53, 108]⟩ : ByteArray), (⟨#[27, 40, 66]⟩ : ByteArray), (⟨#[27, 91, 50, 59, 51, 72]⟩ : ByteArray), (⟨#[27, 55]⟩ : ByteArray)] : List ByteArray) (Int.tmod (bits .and .i64 (rdD 0 p1 x3222) 65535) ((([(⟨#[]⟩ : ByteArray), (⟨#[27, 91, 51, 49, 109]⟩ : ByteArray), (⟨#[27, 93, 48, 59, 120, 7]⟩ : ByteArray), (⟨#[27, 91, 63, 50, 53, 108]⟩ : ByteArray), (⟨#[27, 40, 66]⟩ : ByteArray), (⟨#[27, 91, 50, 59, 51, 72]⟩ : ByteArray), (⟨#[27, 55]⟩ : ByteArray)] : List ByteArray)).length : Int)))), (by exact Kn.pick (ks := [0, 1, 2, 7, 8, 9, 10]) hk rfl), (hs.relab0 (fun l_ => if l_ = 467 then 469 else if l_ = 468 then 470 else l_) rfl), (f19.relab (fun l_ => if l_ = 467 then 469 else if l_ = 468 then 470 else l_) rfl), (f3214.relab (fun l_ => if l_ = 467 then 469 else if l_ = 468 then 470 else l_) rfl), (f3220.relab (fun l_ => if l_ = 467 then 469 else if l_ = 468 then 470 else l_) rfl), (f900020.relab (fun l_ => if l_ = 467 then 469 else if l_ = 468 then 470 else l_) rfl), (fg3.relab (fun l_ => if l_ = 467 then 469 else if l_ = 468 then 470 else l_) rfl), H⟩
    refine x_seq ?_
    refine wpIn_region_lit ?_
    refine x_run tab hk (k := 5) (lv := []) (ks := [0, 1, 2, 7, 8, 9, 10, 26]) (e' := [(0, .slice A3212 (p0).length c3213), (1, .slice Ap1 (p1).length cp1), (2, .int .i64 p2), (7, .slice (some ⟨bx17, 0, none⟩) (([(⟨#[]⟩ : ByteArray), (⟨#[27, 91, 51, 49, 109]⟩ : ByteArray), (⟨#[27, 93, 48, 59, 120, 7]⟩ : ByteArray), (⟨#[27, 91, 63, 50, 53, 108]⟩ : ByteArray), (⟨#[27, 40, 66]⟩ : ByteArray), (⟨#[27, 91, 50, 59, 51, 72]⟩ : ByteArray), (⟨#[27, 55]⟩ : ByteArray)] : List ByteArray)).length 7), (8, .string x3216), (9, .slice A3217 (l3219).length c3218), (10, .int .i64 x3222), (26, .bool (decide (x3222 < ((p0).length : Int))))]) rfl trivial fun a hk => ?_
    cases b3435 : (decide (x3222 < ((p0).length : Int)))
    · rw [b3435] at hk H
      replace H := bifF H
      refine x_run tab hk (k := 3) (lv := []) (ks := [0, 1, 2, 7, 8, 9, 10, 29]) (e' := [(0, .slice A3212 (p0).length c3213), (1, .slice Ap1 (p1).length cp1), (2, .int .i64 p2), (7, .slice (some ⟨bx17, 0, none⟩) (([(⟨#[]⟩ : ByteArray), (⟨#[27, 91, 51, 49, 109]⟩ : ByteArray), (⟨#[27, 93, 48, 59, 120, 7]⟩ : ByteArray), (⟨#[27, 91, 63, 50, 53, 108]⟩ : ByteArray), (⟨#[27, 40, 66]⟩ : ByteArray), (⟨#[27, 91, 50, 59, 51, 72]⟩ : ByteArray), (⟨#[27, 55]⟩ : ByteArray)] : List ByteArray)).length 7), (8, .string x3216), (9, .slice A3217 (l3219).length c3218), (10, .int .i64 x3222), (29, .bool false)]) rfl trivial fun a hk => ?_
      refine wpListIn_nil ?_
      refine then_n ?_
      refine x_if hk (b := false) rfl ?_
      refine (show Code.wpIn _ _ _ _ _ _ _ from ?_)
      refine wpIn_exit ?_
      refine then_x ?_
      refine then_x ?_
      refine blk_x ?_
      refine then_n ?_
      exact ⟨(fun b_ => (fun l_ => if l_ = 457 then 33 else l_) (o3211 b_)), x3216, A3217, c3218, l3219, (by exact Kn.pick (ks := [2, 8, 9]) hk rfl), (hs.relab0 (fun l_ => if l_ = 457 then 33 else l_) rfl), (f3220.relab (fun l_ => if l_ = 457 then 33 else l_) rfl), (fg3.relab (fun l_ => if l_ = 457 then 33 else l_) rfl), hc3221, H⟩
    · rw [b3435] at hk H
      replace H := bifT H
      refine x_run tab hk (k := 3) (lv := []) (ks := [0, 1, 2, 7, 8, 9, 10, 29]) (e' := [(0, .slice A3212 (p0).length c3213), (1, .slice Ap1 (p1).length cp1), (2, .int .i64 p2), (7, .slice (some ⟨bx17, 0, none⟩) (([(⟨#[]⟩ : ByteArray), (⟨#[27, 91, 51, 49, 109]⟩ : ByteArray), (⟨#[27, 93, 48, 59, 120, 7]⟩ : ByteArray), (⟨#[27, 91, 63, 50, 53, 108]⟩ : ByteArray), (⟨#[27, 40, 66]⟩ : ByteArray), (⟨#[27, 91, 50, 59, 51, 72]⟩ : ByteArray), (⟨#[27, 55]⟩ : ByteArray)] : List ByteArray)).length 7), (8, .string x3216), (9, .slice A3217 (l3219).length c3218), (10, .int .i64 x3222), (29, .bool (decide (x3222 < (30 : Int))))]) rfl trivial fun a hk => ?_
      refine wpListIn_nil ?_
      refine then_n ?_
      cases b3436 : (decide (x3222 < (30 : Int)))
      · rw [b3436] at hk H
        replace H := bifF H
        refine x_if hk (b := false) rfl ?_
        refine (show Code.wpIn _ _ _ _ _ _ _ from ?_)
        refine wpIn_exit ?_
        refine then_x ?_
        refine then_x ?_
        refine blk_x ?_
        refine then_n ?_
        exact ⟨(fun b_ => (fun l_ => if l_ = 457 then 33 else l_) (o3211 b_)), x3216, A3217, c3218, l3219, (by exact Kn.pick (ks := [2, 8, 9]) hk rfl), (hs.relab0 (fun l_ => if l_ = 457 then 33 else l_) rfl), (f3220.relab (fun l_ => if l_ = 457 then 33 else l_) rfl), (fg3.relab (fun l_ => if l_ = 457 then 33 else l_) rfl), hc3221, H⟩
      · rw [b3436] at hk H
        replace H := bifT H
        refine x_if hk (b := true) rfl ?_
        refine (show Code.wpIn _ _ _ _ _ _ _ from ?_)
        refine wpIn_skip ?_
        refine then_n ?_
        exact ⟨(fun b_ => (fun l_ => if l_ = 456 then 467 else if l_ = 457 then 468 else l_) (o3211 b_)), (by exact Kn.pick (ks := [0, 1, 2, 7, 8, 9, 10]) hk rfl), (hs.relab0 (fun l_ => if l_ = 456 then 467 else if l_ = 457 then 468 else l_) rfl), (f19.relab (fun l_ => if l_ = 456 then 467 else if l_ = 457 then 468 else l_) rfl), (f3214.relab (fun l_ => if l_ = 456 then 467 else if l_ = 457 then 468 else l_) rfl), (f3220.relab (fun l_ => if l_ = 456 then 467 else if l_ = 457 then 468 else l_) rfl), (f900020.relab (fun l_ => if l_ = 456 then 467 else if l_ = 457 then 468 else l_) rfl), (fg3.relab (fun l_ => if l_ = 456 then 467 else if l_ = 457 then 468 else l_) rfl), H⟩
  · rw [b13] at hk H
    replace H := bifT H
    refine x_if hk (b := true) rfl ?_
    refine (show Code.wpIn _ _ _ _ _ _ _ from ?_)
    refine x_seq ?_
    refine wpIn_region_lit ?_
    refine x_run tab hk (k := 1) (lv := []) (ks := [6]) (e' := [(6, .bool false)]) rfl trivial fun a hk => ?_
    refine wpListIn_nil ?_
    refine then_n ?_
    refine wpIn_ret ?_
    refine then_r ?_
    obtain rfl := Option.some.inj H
    exact x_retG hk (rs := [.tmp 6]) (vs := [.bool false]) rfl ⟨rfl, trivial⟩ ⟨fun b_ => if b_ < w.heap.size then o b_ else (fun _ => 0) (o7 b_), rfl, hs.close0 o (fun _ => 0)⟩

end Go.Proofs.YtpciioffkjpieaaDoor
