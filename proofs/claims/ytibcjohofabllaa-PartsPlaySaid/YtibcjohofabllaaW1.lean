/- Walks, printed by an own program: the machine's calls compute the plain functions. -/
import Derived.Test.YtibcjohofabllaaW0
set_option linter.unusedVariables false
set_option linter.unusedSimpArgs false
namespace Go.Proofs.Ytibcjohofabllaa
open Go Go.Proofs.XC
/-! tidewrack/parts.Split -/
theorem parts_Split_calls (K : Nat) (p0 : ByteArray) (p1 : Int) (w : World) (o : Nat → Nat)   (R0 : Nat) (r : List ByteArray) (H : parts_Split K p0 p1 = some r) :
    Calls Try.prog 9 #[.string p0, .int .i64 p1] w (Ret fun v_ w' => ∃ o' : Nat → Nat, ∃ A0 : Option Addr, ∃ c0 : Nat, v_ = .slice A0 (r).length c0 ∧ St [] w o w' o' ∧ Ft (Own encStr 9 (.slice A0 (r).length c0) r) w' o' R0 ∧ (r).length ≤ c0) := by
  refine x_enter (vs := [.string p0, .int .i64 p1]) Try.func9 rfl rfl rfl fun a hk => ?_
  obtain ⟨o0, hs, h0⟩ := St.start w o
  clear h0
  rw [parts_Split] at H
  refine x_seq ?_
  refine wpIn_region_lit ?_
  refine x_run tab hk (k := 1) (lv := []) (ks := [0, 1]) (e' := [(0, .string p0), (1, .int .i64 p1)]) rfl trivial fun a hk => ?_
  refine wpListIn_nil ?_
  refine then_n ?_
  refine x_seq ?_
  refine wpIn_region_lit ?_
  refine x_run tab hk (k := 4) (lv := []) (ks := [0, 1]) (e' := [(0, .string p0), (1, .int .i64 (mxI 1 (mnI p1 8000)))]) rfl trivial fun a hk => ?_
  refine wpListIn_nil ?_
  refine then_n ?_
  refine x_seq ?_
  refine wpIn_region_lit ?_
  refine x_run tab hk (k := 1) (lv := []) (ks := [0, 1, 5]) (e' := [(0, .string p0), (1, .int .i64 (mxI 1 (mnI p1 8000))), (5, .slice none 0 0)]) rfl trivial fun a hk => ?_
  refine wpListIn_nil ?_
  refine then_n ?_
  refine x_mid (fun a_ w_ => ∃ o77 : Nat → Nat, ∃ x78 : ByteArray, ∃ A79 : Option Addr, ∃ c80 : Nat, ∃ l81 : List ByteArray, Kn 26 a_ [(0, .string x78), (5, .slice A79 (l81).length c80)] ∧ St [] w (fun _ => 0) w_ o77 ∧ Ft (Own encStr 9 (.slice A79 (l81).length c80) l81) w_ o77 7 ∧ (l81).length ≤ c80 ∧ parts_Split_j1 x78 l81 = some r) ?_ ?_
  rotate_left
  · rintro a w84 ⟨o77, x78, A79, c80, l81, hk, hs, f82, hc83, H⟩
    rw [parts_Split_j1] at H
    refine x_seq ?_
    refine wpIn_region_lit ?_
    refine x_run tab hk (k := 2) (lv := []) (ks := [22, 23]) (e' := [(22, .slice A79 (l81).length c80), (23, .string x78)]) rfl trivial fun a hk => ?_
    refine x_op hk rfl ?_
    refine op_slice (o := o77) tab hk (vs := [.string x78]) (cs := [.string x78]) rfl rfl rfl rfl rfl rfl rfl rfl rfl 8 fun bx88 w85 o86 st87 f89 => ?_
    replace f82 := f82.st st87 (by decide)
    replace hs := hs.loc0 st87 (by decide)
    have f90 : Ft (Own encStr 9 (.slice (some ⟨bx88, 0, none⟩) (([x78] : List ByteArray)).length 1) ([x78] : List ByteArray)) w85 o86 8 := f89.imp fun _ h_ => Own.of_box h_ rfl (by simp)
    have hk := hk.put 24 (.slice (some ⟨bx88, 0, none⟩) (([x78] : List ByteArray)).length 1) rfl
    refine x_op hk rfl ?_
    obtain ⟨q94, H⟩ := ifS H
    refine op_append (o := o86) (E := encStr) (xs := l81) (ys := ([x78] : List ByteArray)) tab hk rfl rfl rfl rfl rfl rfl rfl f82 (Own.rd f90.now) q94 fun A95 c96 w91 o92 st93 f97 hc98 => ?_
    replace f90 := f90.st st93 (by decide)
    replace hs := hs.loc0 st93 (by decide)
    have hk := hk.put 25 (.slice A95 ((l81 ++ ([x78] : List ByteArray))).length c96) rfl
    refine x_run tab hk (k := 1) (lv := []) (ks := [4]) (e' := [(4, .slice A95 ((l81 ++ ([x78] : List ByteArray))).length c96)]) rfl trivial fun a hk => ?_
    refine wpListIn_nil ?_
    refine then_n ?_
    refine wpIn_ret ?_
    obtain rfl := Option.some.inj H
    exact x_retG hk (rs := [.tmp 4]) (vs := [.slice A95 ((l81 ++ ([x78] : List ByteArray))).length c96]) rfl ⟨rfl, trivial⟩ ⟨fun b_ => if b_ < w.heap.size then o b_ else (fun _ => R0) (o92 b_), A95, c96, rfl, hs.close0 o (fun _ => R0), hs.close_ft (o := o) (ρ := fun _ => R0) f97 (by decide) rfl, hc98⟩
  refine wpIn_block ?_
  refine x_loop (fun j_ a_ w_ => ∃ o119 : Nat → Nat, ∃ x120 : ByteArray, ∃ A121 : Option Addr, ∃ c122 : Nat, ∃ l123 : List ByteArray, Kn 26 a_ [(0, .string x120), (1, .int .i64 (mxI 1 (mnI p1 8000))), (5, .slice A121 (l123).length c122)] ∧ St [] w (fun _ => 0) w_ o119 ∧ Ft (Own encStr 9 (.slice A121 (l123).length c122) l123) w_ o119 11 ∧ (l123).length ≤ c122 ∧ parts_Split_l2 p1 j_ x120 l123 = some r) (k := K) ⟨o0, p0, none, 0, ([] : List ByteArray), (by exact Kn.pick (ks := [0, 1, 5]) hk rfl), hs, (Ft.of_all (fun _ => Own.nil _ _ _) _ _ _), (by simp), H⟩ (by rintro _ _ ⟨_, _, _, _, _, _, _, _, _, H_⟩; exact absurd (show (none : Option (List ByteArray)) = some r from H_) (by simp)) ?_
  rintro k144 a w143 ⟨o119, x120, A121, c122, l123, hk, hs, f124, hc125, H⟩
  rw [parts_Split_l2] at H
  obtain ⟨lp145, hlp146⟩ : ∃ lp_, lp_ = parts_Split_l2 p1 k144 := ⟨_, rfl⟩
  rw [← hlp146] at H
  refine x_seq ?_
  refine x_seq ?_
  refine wpIn_region_lit ?_
  refine x_run tab hk (k := 4) (lv := []) (ks := [0, 1, 5, 12]) (e' := [(0, .string x120), (1, .int .i64 (mxI 1 (mnI p1 8000))), (5, .slice A121 (l123).length c122), (12, .bool (decide (((x120).size : Int) > (mxI 1 (mnI p1 8000)))))]) rfl trivial fun a hk => ?_
  refine wpListIn_nil ?_
  refine then_n ?_
  cases b147 : (decide (((x120).size : Int) > (mxI 1 (mnI p1 8000))))
  · rw [b147] at hk H
    replace H := bifF H
    refine x_if hk (b := false) rfl ?_
    refine (show Code.wpIn _ _ _ _ _ _ _ from ?_)
    refine wpIn_exit ?_
    refine then_x ?_
    refine then_x ?_
    refine blk_x ?_
    refine then_n ?_
    exact ⟨(fun b_ => (fun l_ => if l_ = 11 then 7 else l_) (o119 b_)), x120, A121, c122, l123, (by exact Kn.pick (ks := [0, 5]) hk rfl), (hs.relab0 (fun l_ => if l_ = 11 then 7 else l_) rfl), (f124.relab (fun l_ => if l_ = 11 then 7 else l_) rfl), hc125, H⟩
  · rw [b147] at hk H
    replace H := bifT H
    refine x_if hk (b := true) rfl ?_
    refine (show Code.wpIn _ _ _ _ _ _ _ from ?_)
    refine wpIn_skip ?_
    refine then_n ?_
    refine wpIn_block ?_
    refine x_seq ?_
    refine wpIn_region_lit ?_
    obtain ⟨q148, H⟩ := ifS H
    obtain ⟨q149, H⟩ := ifS H
    refine x_run tab hk (k := 4) (lv := []) (ks := [0, 1, 13, 16]) (e' := [(0, .string x120), (1, .int .i64 (mxI 1 (mnI p1 8000))), (13, .slice A121 (l123).length c122), (16, .string (ByteArray.extract x120 0 (Int.toNat (mxI 1 (mnI p1 8000)))))]) rfl ⟨q148, q149, trivial⟩ fun a hk => ?_
    refine x_op hk rfl ?_
    refine op_slice (o := o119) tab hk (vs := [.string (ByteArray.extract x120 0 (Int.toNat (mxI 1 (mnI p1 8000))))]) (cs := [.string (ByteArray.extract x120 0 (Int.toNat (mxI 1 (mnI p1 8000))))]) rfl rfl rfl rfl rfl rfl rfl rfl rfl 13 fun bx153 w150 o151 st152 f154 => ?_
    replace f124 := f124.st st152 (by decide)
    replace hs := hs.loc0 st152 (by decide)
    have f155 : Ft (Own encStr 9 (.slice (some ⟨bx153, 0, none⟩) (([(ByteArray.extract x120 0 (Int.toNat (mxI 1 (mnI p1 8000))))] : List ByteArray)).length 1) ([(ByteArray.extract x120 0 (Int.toNat (mxI 1 (mnI p1 8000))))] : List ByteArray)) w150 o151 13 := f154.imp fun _ h_ => Own.of_box h_ rfl (by simp)
    have hk := hk.put 17 (.slice (some ⟨bx153, 0, none⟩) (([(ByteArray.extract x120 0 (Int.toNat (mxI 1 (mnI p1 8000))))] : List ByteArray)).length 1) rfl
    refine x_op hk rfl ?_
    obtain ⟨q159, H⟩ := ifS H
    refine op_append (o := o151) (E := encStr) (xs := l123) (ys := ([(ByteArray.extract x120 0 (Int.toNat (mxI 1 (mnI p1 8000))))] : List ByteArray)) tab hk rfl rfl rfl rfl rfl rfl rfl f124 (Own.rd f155.now) q159 fun A160 c161 w156 o157 st158 f162 hc163 => ?_
    replace f155 := f155.st st158 (by decide)
    replace hs := hs.loc0 st158 (by decide)
    have hk := hk.put 18 (.slice A160 ((l123 ++ ([(ByteArray.extract x120 0 (Int.toNat (mxI 1 (mnI p1 8000))))] : List ByteArray))).length c161) rfl
    refine x_run tab hk (k := 1) (lv := []) (ks := [0, 1, 5]) (e' := [(0, .string x120), (1, .int .i64 (mxI 1 (mnI p1 8000))), (5, .slice A160 ((l123 ++ ([(ByteArray.extract x120 0 (Int.toNat (mxI 1 (mnI p1 8000))))] : List ByteArray))).length c161)]) rfl trivial fun a hk => ?_
    refine wpListIn_nil ?_
    refine then_n ?_
    refine wpIn_region_lit ?_
    refine x_run tab hk (k := 4) (lv := []) (ks := [0, 1, 5]) (e' := [(0, .string (ByteArray.extract x120 (Int.toNat (mxI 1 (mnI p1 8000))) (x120).size)), (1, .int .i64 (mxI 1 (mnI p1 8000))), (5, .slice A160 ((l123 ++ ([(ByteArray.extract x120 0 (Int.toNat (mxI 1 (mnI p1 8000))))] : List ByteArray))).length c161)]) rfl ⟨q148, q149, trivial⟩ fun a hk => ?_
    refine wpListIn_nil ?_
    refine blk_n ?_
    refine then_n ?_
    exact ⟨k144, Nat.le_refl _, o157, (ByteArray.extract x120 (Int.toNat (mxI 1 (mnI p1 8000))) (x120).size), A160, c161, (l123 ++ ([(ByteArray.extract x120 0 (Int.toNat (mxI 1 (mnI p1 8000))))] : List ByteArray)), (by exact Kn.pick (ks := [0, 1, 5]) hk rfl), hs, f162, hc163, (hlp146 ▸ H)⟩

/-! (*tidewrack/parts.Slot).Put -/
theorem parts_Slot_Put_calls (bp0 : Nat) (Ap0_0 : Option Addr) (cp0_0 : Nat) (p0 : T29) (p1 : Int) (p2 : Int) (p3 : Int) (p4 : ByteArray) (w : World) (o : Nat → Nat) (Lp0 : Nat) (hp0 : Ft (Bx bp0 30 [.int .i64 p0.key, .int .i64 p0.count, mv Ap0_0, .int .i64 p0.bytes]) w o Lp0) (Lp0_0 : Nat) (hp0_0 : Ft (MpF encStr false Ap0_0 p0.parts) w o Lp0_0) (hcp0_0 : (p0.parts).length ≤ cp0_0) (hd0 : ([Lp0, Lp0_0] : List Nat).Nodup) (r : Int × T29) (H : parts_Slot_Put p0 p1 p2 p3 p4 = some r) :
    Calls Try.prog 11 #[.pointer (some ⟨bp0, 0, none⟩), .int .i64 p1, .int .i64 p2, .int .i64 p3, .string p4] w (Ret fun v_ w' => ∃ o' : Nat → Nat, ∃ A0 : Option Addr, ∃ c0 : Nat, v_ = .int .i64 r.1 ∧ St [Lp0, Lp0_0] w o w' o' ∧ Ft (Bx bp0 30 [.int .i64 r.2.key, .int .i64 r.2.count, mv A0, .int .i64 r.2.bytes]) w' o' Lp0 ∧ Ft (MpF encStr false A0 r.2.parts) w' o' Lp0_0 ∧ (r.2.parts).length ≤ c0) := by
  refine x_enter (vs := [.pointer (some ⟨bp0, 0, none⟩), .int .i64 p1, .int .i64 p2, .int .i64 p3, .string p4]) Try.func11 rfl rfl rfl fun a hk => ?_
  obtain ⟨oi, hs0, h0, h1, hob, hoz, hoa⟩ := St.startM2 w o (m := 2) hd0 rfl
  have hs := hs0 [1, 2]
  have hom := lab_in hob (MM := [1, 2]) (by decide)
  have f900000 := h1 1 2 hp0_0 rfl rfl
  have f900019 := h1 0 1 hp0 rfl rfl
  clear h0 h1 hs0
  rw [parts_Slot_Put] at H
  refine x_seq ?_
  refine wpIn_region_lit ?_
  refine x_run tab hk (k := 1) (lv := []) (ks := [0, 1, 2, 3, 4]) (e' := [(0, .pointer (some ⟨bp0, 0, none⟩)), (1, .int .i64 p1), (2, .int .i64 p2), (3, .int .i64 p3), (4, .string p4)]) rfl trivial fun a hk => ?_
  refine wpListIn_nil ?_
  refine then_n ?_
  refine x_mid (fun a_ w_ => ∃ o43 : Nat → Nat, ∃ x44 : Int, ∃ x45 : Int, ∃ A46 : Option Addr, ∃ c47 : Nat, ∃ l48 : M ByteArray, ∃ x51 : Int, Kn 86 a_ [(0, .pointer (some ⟨bp0, 0, none⟩)), (2, .int .i64 p2), (4, .string p4)] ∧ St [1, 2] w oi w_ o43 ∧ Ft (MpF encStr false A46 l48) w_ o43 2 ∧ Ft (Bx bp0 30 [.int .i64 x44, .int .i64 x45, mv A46, .int .i64 x51]) w_ o43 1 ∧ (l48).length ≤ c47 ∧ parts_Slot_Put_j1 p2 p4 x44 x45 l48 x51 = some r) ?_ ?_
  rotate_left
  · rintro a w52 ⟨o43, x44, x45, A46, c47, l48, x51, hk, hs, f49, f900019, hc50, H⟩
    rw [parts_Slot_Put_j1] at H
    refine x_seq ?_
    refine x_seq ?_
    refine wpIn_region_lit ?_
    refine x_run tab hk (k := 10) (lv := [mv A46, .tuple #[.string (M.get (⟨#[]⟩ : ByteArray) l48 p2), .bool (M.has l48 p2)]]) (ks := [0, 2, 4, 68]) (e' := [(0, .pointer (some ⟨bp0, 0, none⟩)), (2, .int .i64 p2), (4, .string p4), (68, .bool (M.has l48 p2))]) rfl ⟨(load1 tab rfl ((Bx.cell f900019.now 2).trans rfl)), (ask_look (E := encStr) (ag := false) (zx := (⟨#[]⟩ : ByteArray)) tab rfl rfl rfl rfl f49.now rfl rfl), trivial⟩ fun a hk => ?_
    refine x_run tab hk (k := 1) (lv := []) (ks := [0, 2, 4, 12]) (e' := [(0, .pointer (some ⟨bp0, 0, none⟩)), (2, .int .i64 p2), (4, .string p4), (12, .bool (M.has l48 p2))]) rfl trivial fun a hk => ?_
    refine wpListIn_nil ?_
    refine then_n ?_
    refine x_seq ?_
    refine wpIn_region_lit ?_
    refine x_run tab hk (k := 2) (lv := []) (ks := [0, 2, 4, 70]) (e' := [(0, .pointer (some ⟨bp0, 0, none⟩)), (2, .int .i64 p2), (4, .string p4), (70, .bool (!(M.has l48 p2)))]) rfl trivial fun a hk => ?_
    refine wpListIn_nil ?_
    refine then_n ?_
    cases b53 : (!(M.has l48 p2))
    · rw [b53] at hk H
      replace H := bifF H
      refine x_if hk (b := false) rfl ?_
      refine (show Code.wpIn _ _ _ _ _ _ _ from ?_)
      refine wpIn_skip ?_
      refine then_n ?_
      refine x_seq ?_
      refine wpIn_region_lit ?_
      refine x_run tab hk (k := 1) (lv := []) (ks := [10]) (e' := [(10, .int .i64 0)]) rfl trivial fun a hk => ?_
      refine wpListIn_nil ?_
      refine then_n ?_
      refine wpIn_ret ?_
      obtain rfl := Option.some.inj H
      exact x_retG hk (rs := [.tmp 10]) (vs := [.int .i64 0]) rfl ⟨rfl, trivial⟩ ⟨fun b_ => if b_ < w.heap.size then o b_ else (fun l_ => if l_ = 1 then Lp0 else if l_ = 2 then Lp0_0 else 0) (o43 b_), A46, c47, rfl, hs.closeM hoz (by decide) (fun l_ => if l_ = 1 then Lp0 else if l_ = 2 then Lp0_0 else 0), hs.closeM_ft (o := o) (ρ := fun l_ => if l_ = 1 then Lp0 else if l_ = 2 then Lp0_0 else 0) f900019 (lab_at hoa (i := 0) rfl) rfl, hs.closeM_ft (o := o) (ρ := fun l_ => if l_ = 1 then Lp0 else if l_ = 2 then Lp0_0 else 0) f49 (lab_at hoa (i := 1) rfl) rfl, hc50⟩
    · rw [b53] at hk H
      replace H := bifT H
      refine x_if hk (b := true) rfl ?_
      refine (show Code.wpIn _ _ _ _ _ _ _ from ?_)
      refine x_seq ?_
      refine wpIn_region_lit ?_
      refine x_run tab hk (k := 6) (lv := [mv A46]) (ks := [0, 4, 74, 75, 76]) (e' := [(0, .pointer (some ⟨bp0, 0, none⟩)), (4, .string p4), (74, mv A46), (75, .int .i64 p2), (76, .string p4)]) rfl ⟨(load1 tab rfl ((Bx.cell f900019.now 2).trans rfl)), trivial⟩ fun a hk => ?_
      refine x_op hk rfl ?_
      obtain ⟨q57, H⟩ := ifS H
      refine op_mput tab hk (E := encStr) (ag := false) (k := p2) (v := p4) rfl rfl rfl rfl rfl f49 q57 fun w54 st56 f49_ => ?_
      replace f900019 := f900019.st st56 (by decide)
      replace hs := hs.locM st56 (by decide) hom
      replace f49 := f49_
      refine wpListIn_nil ?_
      refine then_n ?_
      refine wpIn_region_lit ?_
      refine x_run tab hk (k := 9) (lv := [.int .i64 x51]) (ks := [83, 85]) (e' := [(83, .int .i64 (IntKind.wrap .i64 (x51 + ((p4).size : Int)))), (85, .pointer (some ((⟨bp0, 0, none⟩ : Addr).add 3)))]) rfl ⟨(load1 tab rfl ((Bx.cell f900019.now 3).trans rfl)), trivial⟩ fun a hk => ?_
      refine x_op hk rfl ?_
      refine op_store tab hk (t := 3) (v := .int .i64 (IntKind.wrap .i64 (x51 + ((p4).size : Int)))) (b := bp0) (k := 3) (cs' := [.int .i64 x44, .int .i64 x45, mv A46, .int .i64 (IntKind.wrap .i64 (x51 + ((p4).size : Int)))]) rfl rfl rfl rfl rfl rfl f900019 rfl rfl fun w58 o59 st60 f900019_ => ?_
      replace f49 := f49.st st60 (by decide)
      replace hs := hs.locM st60 (by decide) hom
      replace f900019 := f900019_
      refine wpListIn_nil ?_
      refine then_n ?_
      refine x_seq ?_
      refine wpIn_region_lit ?_
      refine x_run tab hk (k := 1) (lv := []) (ks := [10]) (e' := [(10, .int .i64 0)]) rfl trivial fun a hk => ?_
      refine wpListIn_nil ?_
      refine then_n ?_
      refine wpIn_ret ?_
      obtain rfl := Option.some.inj H
      exact x_retG hk (rs := [.tmp 10]) (vs := [.int .i64 0]) rfl ⟨rfl, trivial⟩ ⟨fun b_ => if b_ < w.heap.size then o b_ else (fun l_ => if l_ = 1 then Lp0 else if l_ = 2 then Lp0_0 else 0) (o59 b_), A46, ((M.put l48 p2 p4)).length, rfl, hs.closeM hoz (by decide) (fun l_ => if l_ = 1 then Lp0 else if l_ = 2 then Lp0_0 else 0), hs.closeM_ft (o := o) (ρ := fun l_ => if l_ = 1 then Lp0 else if l_ = 2 then Lp0_0 else 0) f900019 (lab_at hoa (i := 0) rfl) rfl, hs.closeM_ft (o := o) (ρ := fun l_ => if l_ = 1 then Lp0 else if l_ = 2 then Lp0_0 else 0) f49 (lab_at hoa (i := 1) rfl) rfl, (Nat.le_refl _)⟩
  refine wpIn_block ?_
  refine x_mid (fun a_ w_ => ∃ o71 : Nat → Nat, ∃ x72 : Bool, Kn 86 a_ [(0, .pointer (some ⟨bp0, 0, none⟩)), (1, .int .i64 p1), (2, .int .i64 p2), (3, .int .i64 p3), (4, .string p4), (13, .bool x72)] ∧ St [1, 2] w oi w_ o71 ∧ Ft (MpF encStr false Ap0_0 p0.parts) w_ o71 2 ∧ Ft (Bx bp0 30 [.int .i64 p0.key, .int .i64 p0.count, mv Ap0_0, .int .i64 p0.bytes]) w_ o71 1 ∧ parts_Slot_Put_j2 p0 p1 p2 p3 p4 x72 = some r) ?_ ?_
  rotate_left
  · rintro a w73 ⟨o71, x72, hk, hs, f900000, f900019, H⟩
    rw [parts_Slot_Put_j2] at H
    cases b74 : x72
    · rw [b74] at hk H
      replace H := bifF H
      refine x_if hk (b := false) rfl ?_
      refine (show Code.wpIn _ _ _ _ _ _ _ from ?_)
      refine x_seq ?_
      refine wpIn_region_lit ?_
      refine x_run tab hk (k := 7) (lv := [.int .i64 p0.key]) (ks := [0, 1, 2, 3, 4, 33]) (e' := [(0, .pointer (some ⟨bp0, 0, none⟩)), (1, .int .i64 p1), (2, .int .i64 p2), (3, .int .i64 p3), (4, .string p4), (33, .bool (decide (p1 < p0.key)))]) rfl ⟨(load1 tab rfl ((Bx.cell f900019.now 0).trans rfl)), trivial⟩ fun a hk => ?_
      refine wpListIn_nil ?_
      refine then_n ?_
      cases b75 : (decide (p1 < p0.key))
      · rw [b75] at hk H
        replace H := bifF H
        refine x_if hk (b := false) rfl ?_
        refine (show Code.wpIn _ _ _ _ _ _ _ from ?_)
        refine x_seq ?_
        refine wpIn_region_lit ?_
        refine x_run tab hk (k := 7) (lv := [.int .i64 p0.key]) (ks := [0, 1, 2, 3, 4, 40]) (e' := [(0, .pointer (some ⟨bp0, 0, none⟩)), (1, .int .i64 p1), (2, .int .i64 p2), (3, .int .i64 p3), (4, .string p4), (40, .bool (decide (p1 > p0.key)))]) rfl ⟨(load1 tab rfl ((Bx.cell f900019.now 0).trans rfl)), trivial⟩ fun a hk => ?_
        refine wpListIn_nil ?_
        refine then_n ?_
        cases b76 : (decide (p1 > p0.key))
        · rw [b76] at hk H
          replace H := bifF H
          refine x_if hk (b := false) rfl ?_
          refine (show Code.wpIn _ _ _ _ _ _ _ from ?_)
          refine x_seq ?_
          refine wpIn_region_lit ?_
          refine x_run tab hk (k := 7) (lv := [.int .i64 p0.count]) (ks := [0, 2, 4, 53]) (e' := [(0, .pointer (some ⟨bp0, 0, none⟩)), (2, .int .i64 p2), (4, .string p4), (53, .bool (p3 != p0.count))]) rfl ⟨(load1 tab rfl ((Bx.cell f900019.now 1).trans rfl)), trivial⟩ fun a hk => ?_
          refine wpListIn_nil ?_
          refine then_n ?_
          cases b77 : (p3 != p0.count)
          · rw [b77] at hk H
            replace H := bifF H
            refine x_if hk (b := false) rfl ?_
            refine (show Code.wpIn _ _ _ _ _ _ _ from ?_)
            refine wpIn_skip ?_
            refine blk_n ?_
            refine then_n ?_
            exact ⟨o71, p0.key, p0.count, Ap0_0, cp0_0, p0.parts, p0.bytes, (by exact Kn.pick (ks := [0, 2, 4]) hk rfl), hs, f900000, f900019, hcp0_0, H⟩
          · rw [b77] at hk H
            replace H := bifT H
            refine x_if hk (b := true) rfl ?_
            refine (show Code.wpIn _ _ _ _ _ _ _ from ?_)
            refine x_seq ?_
            refine wpIn_region_lit ?_
            refine x_run tab hk (k := 1) (lv := []) (ks := [10]) (e' := [(10, .int .i64 1)]) rfl trivial fun a hk => ?_
            refine wpListIn_nil ?_
            refine then_n ?_
            refine wpIn_ret ?_
            refine blk_r ?_
            refine then_r ?_
            obtain rfl := Option.some.inj H
            exact x_retG hk (rs := [.tmp 10]) (vs := [.int .i64 1]) rfl ⟨rfl, trivial⟩ ⟨fun b_ => if b_ < w.heap.size then o b_ else (fun l_ => if l_ = 1 then Lp0 else if l_ = 2 then Lp0_0 else 0) (o71 b_), Ap0_0, cp0_0, rfl, hs.closeM hoz (by decide) (fun l_ => if l_ = 1 then Lp0 else if l_ = 2 then Lp0_0 else 0), hs.closeM_ft (o := o) (ρ := fun l_ => if l_ = 1 then Lp0 else if l_ = 2 then Lp0_0 else 0) f900019 (lab_at hoa (i := 0) rfl) rfl, hs.closeM_ft (o := o) (ρ := fun l_ => if l_ = 1 then Lp0 else if l_ = 2 then Lp0_0 else 0) f900000 (lab_at hoa (i := 1) rfl) rfl, hcp0_0⟩
        · rw [b76] at hk H
          replace H := bifT H
          refine x_if hk (b := true) rfl ?_
          refine (show Code.wpIn _ _ _ _ _ _ _ from ?_)
          refine wpIn_region_lit ?_
          refine x_run tab hk (k := 3) (lv := []) (ks := [0, 2, 4, 47, 48, 49]) (e' := [(0, .pointer (some ⟨bp0, 0, none⟩)), (2, .int .i64 p2), (4, .string p4), (47, .pointer (some ⟨bp0, 0, none⟩)), (48, .int .i64 p1), (49, .int .i64 p3)]) rfl trivial fun a hk => ?_
          refine x_op hk rfl ?_
          refine op_mmake (o := o71) rfl encStr false 4 fun bx81 w78 o79 st80 f82 => ?_
          replace f900000 := f900000.st st80 (by decide)
          replace f900019 := f900019.st st80 (by decide)
          replace hs := hs.locM st80 (by decide) hom
          have hk := hk.put 50 (mv (some ⟨bx81, 0, none⟩)) rfl
          refine x_run tab hk (k := 2) (lv := []) (ks := [0, 2, 4, 51, 52]) (e' := [(0, .pointer (some ⟨bp0, 0, none⟩)), (2, .int .i64 p2), (4, .string p4), (51, .agg #[.int .i64 p1, .int .i64 p3, mv (some ⟨bx81, 0, none⟩), .int .i64 0]), (52, .pointer (some ⟨bp0, 0, none⟩))]) rfl trivial fun a hk => ?_
          refine x_op hk rfl ?_
          refine op_store tab hk (t := 30) (v := .agg #[.int .i64 p1, .int .i64 p3, mv (some ⟨bx81, 0, none⟩), .int .i64 0]) (b := bp0) (k := 0) (cs' := [.int .i64 p1, .int .i64 p3, mv (some ⟨bx81, 0, none⟩), .int .i64 0]) rfl rfl rfl rfl rfl rfl f900019 rfl rfl fun w83 o84 st85 f900019_ => ?_
          replace f82 := f82.st st85 (by decide)
          replace f900000 := f900000.st st85 (by decide)
          replace hs := hs.locM st85 (by decide) hom
          replace f900019 := f900019_
          refine wpListIn_nil ?_
          refine blk_n ?_
          refine then_n ?_
          exact ⟨(fun b_ => (fun l_ => if l_ = 4 then 2 else l_) (o84 b_)), p1, p3, (some ⟨bx81, 0, none⟩), 0, (M.new : M ByteArray), 0, (by exact Kn.pick (ks := [0, 2, 4]) hk rfl), (hs.relabM hob (fun l_ => if l_ = 4 then 2 else l_) (by decide)), (f82.relab (fun l_ => if l_ = 4 then 2 else l_) rfl), (f900019.relab (fun l_ => if l_ = 4 then 2 else l_) rfl), (Nat.le_refl _), H⟩
      · rw [b75] at hk H
        replace H := bifT H
        refine x_if hk (b := true) rfl ?_
        refine (show Code.wpIn _ _ _ _ _ _ _ from ?_)
        refine x_seq ?_
        refine wpIn_region_lit ?_
        refine x_run tab hk (k := 1) (lv := []) (ks := [10]) (e' := [(10, .int .i64 8)]) rfl trivial fun a hk => ?_
        refine wpListIn_nil ?_
        refine then_n ?_
        refine wpIn_ret ?_
        refine blk_r ?_
        refine then_r ?_
        obtain rfl := Option.some.inj H
        exact x_retG hk (rs := [.tmp 10]) (vs := [.int .i64 8]) rfl ⟨rfl, trivial⟩ ⟨fun b_ => if b_ < w.heap.size then o b_ else (fun l_ => if l_ = 1 then Lp0 else if l_ = 2 then Lp0_0 else 0) (o71 b_), Ap0_0, cp0_0, rfl, hs.closeM hoz (by decide) (fun l_ => if l_ = 1 then Lp0 else if l_ = 2 then Lp0_0 else 0), hs.closeM_ft (o := o) (ρ := fun l_ => if l_ = 1 then Lp0 else if l_ = 2 then Lp0_0 else 0) f900019 (lab_at hoa (i := 0) rfl) rfl, hs.closeM_ft (o := o) (ρ := fun l_ => if l_ = 1 then Lp0 else if l_ = 2 then Lp0_0 else 0) f900000 (lab_at hoa (i := 1) rfl) rfl, hcp0_0⟩
    · rw [b74] at hk H
      replace H := bifT H
      refine x_if hk (b := true) rfl ?_
      refine (show Code.wpIn _ _ _ _ _ _ _ from ?_)
      refine x_seq ?_
      refine wpIn_region_lit ?_
      refine x_run tab hk (k := 1) (lv := []) (ks := [10]) (e' := [(10, .int .i64 6)]) rfl trivial fun a hk => ?_
      refine wpListIn_nil ?_
      refine then_n ?_
      refine wpIn_ret ?_
      refine blk_r ?_
      refine then_r ?_
      obtain rfl := Option.some.inj H
      exact x_retG hk (rs := [.tmp 10]) (vs := [.int .i64 6]) rfl ⟨rfl, trivial⟩ ⟨fun b_ => if b_ < w.heap.size then o b_ else (fun l_ => if l_ = 1 then Lp0 else if l_ = 2 then Lp0_0 else 0) (o71 b_), Ap0_0, cp0_0, rfl, hs.closeM hoz (by decide) (fun l_ => if l_ = 1 then Lp0 else if l_ = 2 then Lp0_0 else 0), hs.closeM_ft (o := o) (ρ := fun l_ => if l_ = 1 then Lp0 else if l_ = 2 then Lp0_0 else 0) f900019 (lab_at hoa (i := 0) rfl) rfl, hs.closeM_ft (o := o) (ρ := fun l_ => if l_ = 1 then Lp0 else if l_ = 2 then Lp0_0 else 0) f900000 (lab_at hoa (i := 1) rfl) rfl, hcp0_0⟩
  refine wpIn_region_lit ?_
  refine x_run tab hk (k := 3) (lv := []) (ks := [0, 1, 2, 3, 4, 16]) (e' := [(0, .pointer (some ⟨bp0, 0, none⟩)), (1, .int .i64 p1), (2, .int .i64 p2), (3, .int .i64 p3), (4, .string p4), (16, .bool (decide (p3 < (1 : Int))))]) rfl trivial fun a hk => ?_
  cases b86 : (decide (p3 < (1 : Int)))
  · rw [b86] at hk H
    replace H := bifF H
    refine x_run tab hk (k := 4) (lv := []) (ks := [0, 1, 2, 3, 4, 20]) (e' := [(0, .pointer (some ⟨bp0, 0, none⟩)), (1, .int .i64 p1), (2, .int .i64 p2), (3, .int .i64 p3), (4, .string p4), (20, .bool (decide (p3 > (4096 : Int))))]) rfl trivial fun a hk => ?_
    cases b87 : (decide (p3 > (4096 : Int)))
    · rw [b87] at hk H
      replace H := bifF H
      refine x_run tab hk (k := 4) (lv := []) (ks := [0, 1, 2, 3, 4, 24]) (e' := [(0, .pointer (some ⟨bp0, 0, none⟩)), (1, .int .i64 p1), (2, .int .i64 p2), (3, .int .i64 p3), (4, .string p4), (24, .bool (decide (p2 < (0 : Int))))]) rfl trivial fun a hk => ?_
      cases b88 : (decide (p2 < (0 : Int)))
      · rw [b88] at hk H
        replace H := bifF H
        refine x_run tab hk (k := 5) (lv := []) (ks := [0, 1, 2, 3, 4, 29]) (e' := [(0, .pointer (some ⟨bp0, 0, none⟩)), (1, .int .i64 p1), (2, .int .i64 p2), (3, .int .i64 p3), (4, .string p4), (29, .bool (decide (p2 ≥ p3)))]) rfl trivial fun a hk => ?_
        cases b89 : (decide (p2 ≥ p3))
        · rw [b89] at hk H
          replace H := bifF H
          refine x_run tab hk (k := 4) (lv := []) (ks := [0, 1, 2, 3, 4, 13]) (e' := [(0, .pointer (some ⟨bp0, 0, none⟩)), (1, .int .i64 p1), (2, .int .i64 p2), (3, .int .i64 p3), (4, .string p4), (13, .bool (decide (p1 < (1 : Int))))]) rfl trivial fun a hk => ?_
          refine wpListIn_nil ?_
          refine then_n ?_
          exact ⟨oi, (decide (p1 < (1 : Int))), (by exact Kn.pick (ks := [0, 1, 2, 3, 4, 13]) hk rfl), hs, f900000, f900019, H⟩
        · rw [b89] at hk H
          replace H := bifT H
          refine x_run tab hk (k := 4) (lv := []) (ks := [0, 1, 2, 3, 4, 13]) (e' := [(0, .pointer (some ⟨bp0, 0, none⟩)), (1, .int .i64 p1), (2, .int .i64 p2), (3, .int .i64 p3), (4, .string p4), (13, .bool true)]) rfl trivial fun a hk => ?_
          refine wpListIn_nil ?_
          refine then_n ?_
          exact ⟨oi, true, (by exact Kn.pick (ks := [0, 1, 2, 3, 4, 13]) hk rfl), hs, f900000, f900019, H⟩
      · rw [b88] at hk H
        replace H := bifT H
        refine x_run tab hk (k := 9) (lv := []) (ks := [0, 1, 2, 3, 4, 13]) (e' := [(0, .pointer (some ⟨bp0, 0, none⟩)), (1, .int .i64 p1), (2, .int .i64 p2), (3, .int .i64 p3), (4, .string p4), (13, .bool true)]) rfl trivial fun a hk => ?_
        refine wpListIn_nil ?_
        refine then_n ?_
        exact ⟨oi, true, (by exact Kn.pick (ks := [0, 1, 2, 3, 4, 13]) hk rfl), hs, f900000, f900019, H⟩
    · rw [b87] at hk H
      replace H := bifT H
      refine x_run tab hk (k := 11) (lv := []) (ks := [0, 1, 2, 3, 4, 29, 31]) (e' := [(0, .pointer (some ⟨bp0, 0, none⟩)), (1, .int .i64 p1), (2, .int .i64 p2), (3, .int .i64 p3), (4, .string p4), (29, .bool true), (31, undef)]) rfl trivial fun a hk => ?_
      refine x_run tab hk (k := 2) (lv := []) (ks := [0, 1, 2, 3, 4, 13]) (e' := [(0, .pointer (some ⟨bp0, 0, none⟩)), (1, .int .i64 p1), (2, .int .i64 p2), (3, .int .i64 p3), (4, .string p4), (13, .bool true)]) rfl trivial fun a hk => ?_
      refine wpListIn_nil ?_
      refine then_n ?_
      exact ⟨oi, true, (by exact Kn.pick (ks := [0, 1, 2, 3, 4, 13]) hk rfl), hs, f900000, f900019, H⟩
  · rw [b86] at hk H
    replace H := bifT H
    refine x_run tab hk (k := 11) (lv := []) (ks := [0, 1, 2, 3, 4, 24, 27]) (e' := [(0, .pointer (some ⟨bp0, 0, none⟩)), (1, .int .i64 p1), (2, .int .i64 p2), (3, .int .i64 p3), (4, .string p4), (24, .bool true), (27, undef)]) rfl trivial fun a hk => ?_
    refine x_run tab hk (k := 6) (lv := []) (ks := [0, 1, 2, 3, 4, 13]) (e' := [(0, .pointer (some ⟨bp0, 0, none⟩)), (1, .int .i64 p1), (2, .int .i64 p2), (3, .int .i64 p3), (4, .string p4), (13, .bool true)]) rfl trivial fun a hk => ?_
    refine wpListIn_nil ?_
    refine then_n ?_
    exact ⟨oi, true, (by exact Kn.pick (ks := [0, 1, 2, 3, 4, 13]) hk rfl), hs, f900000, f900019, H⟩

/-! (*tidewrack/parts.Slot).each -/
theorem parts_Slot_each_iter (K : Nat) (bp0 : Nat) (Ap0_0 : Option Addr) (cp0_0 : Nat) (p0 : T29) (w : World) (o : Nat → Nat) (Lp0 : Nat) (hp0 : Ft (Bx bp0 30 [.int .i64 p0.key, .int .i64 p0.count, mv Ap0_0, .int .i64 p0.bytes]) w o Lp0) (Lp0_0 : Nat) (hp0_0 : Ft (MpF encStr false Ap0_0 p0.parts) w o Lp0_0) (hcp0_0 : (p0.parts).length ≤ cp0_0) (hd0 : ([] : List Nat).Nodup) (hd1 : Lp0_0 ∉ ([] : List Nat)) (hd2 : Lp0 ∉ ([] : List Nat)) (r : List (Int × Bool)) (H : parts_Slot_each K p0 = some r) :
    IterC Try.prog 20 [.pointer (some ⟨bp0, 0, none⟩)] [] (fun (x_ : Int × Bool) vs_ _ => vs_ = [.int .i64 x_.1, .bool x_.2]) none r w o [] [Lp0, Lp0_0] := by
  refine iter_start hd0 (fun _ h_ => by cases h_) fun l_ JJ XX Res w1 oi h1 h2 h3 hJ hX hRl hY hE0 hE1 hs => ?_
  refine x_enter (vs := [.pointer (some ⟨bp0, 0, none⟩), .func (.yield l_) #[] #[]]) Try.func20 rfl rfl rfl fun a hk => ?_
  have f900000 := h3 2 hp0_0 (by simp) hd1 (by simp) rfl
  have f900019 := h3 2 hp0 (by simp) hd2 (by simp) rfl
  clear h1 h2 h3
  rw [parts_Slot_each] at H
  refine x_seq ?_
  refine wpIn_region_lit ?_
  refine x_run tab hk (k := 5) (lv := [.int .i64 p0.count]) (ks := [0, 1, 10, 11]) (e' := [(0, .pointer (some ⟨bp0, 0, none⟩)), (1, .func (.yield l_) #[] #[]), (10, .int .i64 p0.count), (11, .int .i64 0)]) rfl ⟨(load1 tab rfl ((Bx.cell f900019.now 1).trans rfl)), trivial⟩ fun a hk => ?_
  refine wpListIn_nil ?_
  refine then_n ?_
  refine wpIn_block ?_
  refine x_loop (fun j_ a_ w_ => ∃ o12 : Nat → Nat, ∃ r13 : List (Int × Bool), ∃ x14 : Int, Kn 29 a_ [(0, .pointer (some ⟨bp0, 0, none⟩)), (1, .func (.yield l_) #[] #[]), (10, .int .i64 p0.count), (11, .int .i64 x14)] ∧ JJ r13 w_ o12 ∧ Ft (MpF encStr false Ap0_0 p0.parts) w_ o12 2 ∧ Ft (Bx bp0 30 [.int .i64 p0.key, .int .i64 p0.count, mv Ap0_0, .int .i64 p0.bytes]) w_ o12 2 ∧ parts_Slot_each_l1 p0 j_ x14 = some r13) (k := K) ⟨oi, r, 0, (by exact Kn.pick (ks := [0, 1, 10, 11]) hk rfl), hs, f900000, f900019, H⟩ (by rintro _ _ ⟨_, _, _, _, _, _, _, H_⟩; exact absurd (show (none : Option (List (Int × Bool))) = some _ from H_) (by simp)) ?_
  rintro k23 a w22 ⟨o12, r13, x14, hk, hs, f900000, f900019, H⟩
  rw [parts_Slot_each_l1] at H
  obtain ⟨lp24, hlp25⟩ : ∃ lp_, lp_ = parts_Slot_each_l1 p0 k23 := ⟨_, rfl⟩
  rw [← hlp25] at H
  refine x_seq ?_
  refine wpIn_region_lit ?_
  refine x_run tab hk (k := 1) (lv := []) (ks := [0, 1, 10, 11, 12]) (e' := [(0, .pointer (some ⟨bp0, 0, none⟩)), (1, .func (.yield l_) #[] #[]), (10, .int .i64 p0.count), (11, .int .i64 x14), (12, .bool (decide (x14 < p0.count)))]) rfl trivial fun a hk => ?_
  refine wpListIn_nil ?_
  refine then_n ?_
  refine x_seq ?_
  cases b26 : (decide (x14 < p0.count))
  · rw [b26] at hk H
    replace H := bifF H
    refine x_if hk (b := false) rfl ?_
    refine (show Code.wpIn _ _ _ _ _ _ _ from ?_)
    refine wpIn_exit ?_
    refine then_x ?_
    refine then_x ?_
    refine blk_x ?_
    obtain rfl := Option.some.inj H
    exact x_endG hk (rs := []) (vs := []) rfl trivial (hE0 hs)
  · rw [b26] at hk H
    replace H := bifT H
    refine x_if hk (b := true) rfl ?_
    refine (show Code.wpIn _ _ _ _ _ _ _ from ?_)
    refine wpIn_skip ?_
    refine then_n ?_
    refine x_seq ?_
    refine wpIn_block ?_
    refine x_seq ?_
    refine wpIn_region_lit ?_
    refine x_run tab hk (k := 2) (lv := []) (ks := [0, 1, 4, 10, 11]) (e' := [(0, .pointer (some ⟨bp0, 0, none⟩)), (1, .func (.yield l_) #[] #[]), (4, .int .i64 x14), (10, .int .i64 p0.count), (11, .int .i64 x14)]) rfl trivial fun a hk => ?_
    refine wpListIn_nil ?_
    refine then_n ?_
    refine x_seq ?_
    refine wpIn_region_lit ?_
    refine x_run tab hk (k := 10) (lv := [mv Ap0_0, .tuple #[.string (M.get (⟨#[]⟩ : ByteArray) p0.parts x14), .bool (M.has p0.parts x14)]]) (ks := [0, 1, 4, 10, 11, 22]) (e' := [(0, .pointer (some ⟨bp0, 0, none⟩)), (1, .func (.yield l_) #[] #[]), (4, .int .i64 x14), (10, .int .i64 p0.count), (11, .int .i64 x14), (22, .bool (M.has p0.parts x14))]) rfl ⟨(load1 tab rfl ((Bx.cell f900019.now 2).trans rfl)), (ask_look (E := encStr) (ag := false) (zx := (⟨#[]⟩ : ByteArray)) tab rfl rfl rfl rfl f900000.now rfl rfl), trivial⟩ fun a hk => ?_
    refine x_run tab hk (k := 1) (lv := []) (ks := [0, 1, 4, 6, 10, 11]) (e' := [(0, .pointer (some ⟨bp0, 0, none⟩)), (1, .func (.yield l_) #[] #[]), (4, .int .i64 x14), (6, .bool (M.has p0.parts x14)), (10, .int .i64 p0.count), (11, .int .i64 x14)]) rfl trivial fun a hk => ?_
    refine wpListIn_nil ?_
    refine then_n ?_
    refine x_seq ?_
    refine wpIn_region_lit ?_
    refine x_run tab hk (k := 3) (lv := []) (ks := [0, 1, 10, 11, 23, 24, 25]) (e' := [(0, .pointer (some ⟨bp0, 0, none⟩)), (1, .func (.yield l_) #[] #[]), (10, .int .i64 p0.count), (11, .int .i64 x14), (23, .func (.yield l_) #[] #[]), (24, .int .i64 x14), (25, .bool (M.has p0.parts x14))]) rfl trivial fun a hk => ?_
    refine x_op hk rfl ?_
    obtain ⟨r27, hr28, H⟩ := consS H
    rw [hr28] at hs
    refine op_yield hk rfl (vs := [.int .i64 x14, .bool (M.has p0.parts x14)]) rfl (hY hs (fun _ => rfl)) ?_
    rintro b29 w30 ⟨o31, st32, ht_, hf_⟩
    replace f900000 := f900000.st st32 (by decide)
    replace f900019 := f900019.st st32 (by decide)
    cases b29
    · have hs := hf_ rfl
      have hk := hk.put 26 (.bool false) rfl
      refine x_run tab hk (k := 1) (lv := []) (ks := [0, 1, 10, 11, 27]) (e' := [(0, .pointer (some ⟨bp0, 0, none⟩)), (1, .func (.yield l_) #[] #[]), (10, .int .i64 p0.count), (11, .int .i64 x14), (27, .bool true)]) rfl trivial fun a hk => ?_
      refine wpListIn_nil ?_
      refine then_n ?_
      refine x_if hk (b := true) rfl ?_
      refine (show Code.wpIn _ _ _ _ _ _ _ from ?_)
      refine wpIn_ret ?_
      refine blk_r ?_
      refine then_r ?_
      refine then_r ?_
      refine blk_r ?_
      exact x_retG hk (rs := []) (vs := []) rfl trivial (hE1 hs)
    · have hs := ht_ rfl
      have hk := hk.put 26 (.bool true) rfl
      refine x_run tab hk (k := 1) (lv := []) (ks := [0, 1, 10, 11, 27]) (e' := [(0, .pointer (some ⟨bp0, 0, none⟩)), (1, .func (.yield l_) #[] #[]), (10, .int .i64 p0.count), (11, .int .i64 x14), (27, .bool false)]) rfl trivial fun a hk => ?_
      refine wpListIn_nil ?_
      refine then_n ?_
      refine x_if hk (b := false) rfl ?_
      refine (show Code.wpIn _ _ _ _ _ _ _ from ?_)
      refine wpIn_skip ?_
      refine blk_n ?_
      refine then_n ?_
      refine wpIn_region_lit ?_
      refine x_run tab hk (k := 2) (lv := []) (ks := [0, 1, 10, 11]) (e' := [(0, .pointer (some ⟨bp0, 0, none⟩)), (1, .func (.yield l_) #[] #[]), (10, .int .i64 p0.count), (11, .int .i64 (IntKind.wrap .i64 (x14 + 1)))]) rfl trivial fun a hk => ?_
      refine wpListIn_nil ?_
      refine then_n ?_
      exact ⟨k23, Nat.le_refl _, o31, r27, (IntKind.wrap .i64 (x14 + 1)), (by exact Kn.pick (ks := [0, 1, 10, 11]) hk rfl), hs, f900000, f900019, (hlp25 ▸ H)⟩

/-! (*strings.Builder).copyCheck -/
theorem strings_Builder_copyCheck_calls (bp0 : Nat) (Ap0_0 : Option Addr) (cp0_0 : Nat) (p0 : T52) (w : World) (o : Nat → Nat) (Lp0 : Nat) (hp0 : Ft (Bl bp0 53 (.slice Ap0_0 (p0.buf).length cp0_0)) w o Lp0) (Lp0_0 : Nat) (hp0_0 : Ft (Own (encInt .u8) 5 (.slice Ap0_0 (p0.buf).length cp0_0) p0.buf) w o Lp0_0) (hcp0_0 : (p0.buf).length ≤ cp0_0) (hd0 : ([Lp0, Lp0_0] : List Nat).Nodup) (r : T52) (H : strings_Builder_copyCheck p0 = some r) :
    Calls Try.prog 30 #[.pointer (some ⟨bp0, 0, none⟩)] w (Ret fun v_ w' => ∃ o' : Nat → Nat, ∃ A0 : Option Addr, ∃ c0 : Nat, v_ = .tuple #[] ∧ St [Lp0, Lp0_0] w o w' o' ∧ Ft (Bl bp0 53 (.slice A0 (r.buf).length c0)) w' o' Lp0 ∧ Ft (Own (encInt .u8) 5 (.slice A0 (r.buf).length c0) r.buf) w' o' Lp0_0 ∧ (r.buf).length ≤ c0) := by
  refine x_enter (vs := [.pointer (some ⟨bp0, 0, none⟩)]) Try.func30 rfl rfl rfl fun a hk => ?_
  obtain ⟨oi, hs0, h0, h1, hob, hoz, hoa⟩ := St.startM2 w o (m := 2) hd0 rfl
  have hs := hs0 [1, 2]
  have hom := lab_in hob (MM := [1, 2]) (by decide)
  have f900000 := h1 1 2 hp0_0 rfl rfl
  have f900019 := h1 0 1 hp0 rfl rfl
  clear h0 h1 hs0
  rw [strings_Builder_copyCheck] at H
  obtain ⟨pb_, hpb_, f900019⟩ := Bl.open f900019
  rcases hpb_ with rfl | rfl
  · skip
    refine x_seq ?_
    refine wpIn_region_lit ?_
    refine x_run tab hk (k := 5) (lv := [.pointer none]) (ks := [0, 6]) (e' := [(0, .pointer (some ⟨bp0, 0, none⟩)), (6, .bool true)]) rfl ⟨(load1 tab rfl ((Bx.cell f900019.now 0).trans rfl)), trivial⟩ fun a hk => ?_
    refine wpListIn_nil ?_
    refine then_n ?_
    refine x_if hk (b := true) rfl ?_
    refine (show Code.wpIn _ _ _ _ _ _ _ from ?_)
    refine wpIn_region_lit ?_
    refine x_run tab hk (k := 7) (lv := [.pointer (some ⟨bp0, 0, none⟩), .pointer (some ⟨bp0, 0, none⟩), .pointer (some ⟨bp0, 0, none⟩)]) (ks := [11, 13]) (e' := [(11, .pointer (some ⟨bp0, 0, none⟩)), (13, .pointer (some ⟨bp0, 0, none⟩))]) rfl ⟨(ask_toU tab rfl rfl rfl rfl f900019.now rfl), (ask_noesc Try.func32 (by kernel_rfl) (by kernel_rfl) (by kernel_rfl) (by kernel_rfl) rfl _), (ask_ofU tab rfl rfl rfl (by kernel_rfl) f900019.now rfl), trivial⟩ fun a hk => ?_
    refine x_op hk rfl ?_
    refine op_store tab hk (t := 50) (v := .pointer (some ⟨bp0, 0, none⟩)) (b := bp0) (k := 0) (cs' := [.pointer (some ⟨bp0, 0, none⟩), .slice Ap0_0 (p0.buf).length cp0_0]) rfl rfl rfl rfl rfl rfl f900019 rfl rfl fun w1 o2 st3 f900019_ => ?_
    replace f900000 := f900000.st st3 (by decide)
    replace hs := hs.locM st3 (by decide) hom
    replace f900019 := f900019_
    refine wpListIn_nil ?_
    obtain rfl := Option.some.inj H
    exact x_endG hk (rs := []) (vs := []) rfl trivial ⟨fun b_ => if b_ < w.heap.size then o b_ else (fun l_ => if l_ = 1 then Lp0 else if l_ = 2 then Lp0_0 else 0) (o2 b_), Ap0_0, cp0_0, rfl, hs.closeM hoz (by decide) (fun l_ => if l_ = 1 then Lp0 else if l_ = 2 then Lp0_0 else 0), ((hs.closeM_ft (o := o) (ρ := fun l_ => if l_ = 1 then Lp0 else if l_ = 2 then Lp0_0 else 0) f900019 (lab_at hoa (i := 0) rfl) rfl).imp fun _ h_ => Bl.of h_ (.inr rfl)), hs.closeM_ft (o := o) (ρ := fun l_ => if l_ = 1 then Lp0 else if l_ = 2 then Lp0_0 else 0) f900000 (lab_at hoa (i := 1) rfl) rfl, hcp0_0⟩
  · skip
    refine x_seq ?_
    refine wpIn_region_lit ?_
    refine x_run tab hk (k := 5) (lv := [.pointer (some ⟨bp0, 0, none⟩)]) (ks := [0, 6]) (e' := [(0, .pointer (some ⟨bp0, 0, none⟩)), (6, .bool false)]) rfl ⟨(load1 tab rfl ((Bx.cell f900019.now 0).trans rfl)), trivial⟩ fun a hk => ?_
    refine wpListIn_nil ?_
    refine then_n ?_
    refine x_if hk (b := false) rfl ?_
    refine (show Code.wpIn _ _ _ _ _ _ _ from ?_)
    refine x_seq ?_
    refine wpIn_region_lit ?_
    refine x_run tab hk (k := 6) (lv := [.pointer (some ⟨bp0, 0, none⟩), .bool false]) (ks := [19]) (e' := [(19, .bool false)]) rfl ⟨(load1 tab rfl ((Bx.cell f900019.now 0).trans rfl)), (ask_pne tab rfl rfl rfl rfl rfl), trivial⟩ fun a hk => ?_
    refine wpListIn_nil ?_
    refine then_n ?_
    refine x_if hk (b := false) rfl ?_
    refine (show Code.wpIn _ _ _ _ _ _ _ from ?_)
    refine wpIn_skip ?_
    obtain rfl := Option.some.inj H
    exact x_endG hk (rs := []) (vs := []) rfl trivial ⟨fun b_ => if b_ < w.heap.size then o b_ else (fun l_ => if l_ = 1 then Lp0 else if l_ = 2 then Lp0_0 else 0) (oi b_), Ap0_0, cp0_0, rfl, hs.closeM hoz (by decide) (fun l_ => if l_ = 1 then Lp0 else if l_ = 2 then Lp0_0 else 0), ((hs.closeM_ft (o := o) (ρ := fun l_ => if l_ = 1 then Lp0 else if l_ = 2 then Lp0_0 else 0) f900019 (lab_at hoa (i := 0) rfl) rfl).imp fun _ h_ => Bl.of h_ (.inr rfl)), hs.closeM_ft (o := o) (ρ := fun l_ => if l_ = 1 then Lp0 else if l_ = 2 then Lp0_0 else 0) f900000 (lab_at hoa (i := 1) rfl) rfl, hcp0_0⟩

/-! (*strings.Builder).WriteString -/
theorem strings_Builder_WriteString_calls (bp0 : Nat) (Ap0_0 : Option Addr) (cp0_0 : Nat) (p0 : T52) (p1 : ByteArray) (w : World) (o : Nat → Nat) (Lp0 : Nat) (hp0 : Ft (Bl bp0 53 (.slice Ap0_0 (p0.buf).length cp0_0)) w o Lp0) (Lp0_0 : Nat) (hp0_0 : Ft (Own (encInt .u8) 5 (.slice Ap0_0 (p0.buf).length cp0_0) p0.buf) w o Lp0_0) (hcp0_0 : (p0.buf).length ≤ cp0_0) (hd0 : ([Lp0, Lp0_0] : List Nat).Nodup) (r : Int × T52) (H : strings_Builder_WriteString p0 p1 = some r) :
    Calls Try.prog 21 #[.pointer (some ⟨bp0, 0, none⟩), .string p1] w (Ret fun v_ w' => ∃ o' : Nat → Nat, ∃ A0 : Option Addr, ∃ c0 : Nat, v_ = .tuple #[.int .i64 r.1, .nilIface] ∧ St [Lp0, Lp0_0] w o w' o' ∧ Ft (Bl bp0 53 (.slice A0 (r.2.buf).length c0)) w' o' Lp0 ∧ Ft (Own (encInt .u8) 5 (.slice A0 (r.2.buf).length c0) r.2.buf) w' o' Lp0_0 ∧ (r.2.buf).length ≤ c0) := by
  refine x_enter (vs := [.pointer (some ⟨bp0, 0, none⟩), .string p1]) Try.func21 rfl rfl rfl fun a hk => ?_
  obtain ⟨oi, hs0, h0, h1, hob, hoz, hoa⟩ := St.startM2 w o (m := 2) hd0 rfl
  have hs := hs0 [1, 2]
  have hom := lab_in hob (MM := [1, 2]) (by decide)
  have f900000 := h1 1 2 hp0_0 rfl rfl
  have f900019 := h1 0 1 hp0 rfl rfl
  clear h0 h1 hs0
  rw [strings_Builder_WriteString] at H
  obtain ⟨pb_, hpb_, f900019⟩ := Bl.open f900019
  rcases hpb_ with rfl | rfl
  · skip
    refine x_seq ?_
    refine wpIn_region_lit ?_
    refine x_run tab hk (k := 2) (lv := []) (ks := [0, 1]) (e' := [(0, .pointer (some ⟨bp0, 0, none⟩)), (1, .string p1)]) rfl trivial fun a hk => ?_
    refine wpListIn_nil ?_
    refine then_n ?_
    refine x_seq ?_
    refine wpIn_region_lit ?_
    refine x_run tab hk (k := 1) (lv := []) (ks := [0, 1, 6]) (e' := [(0, .pointer (some ⟨bp0, 0, none⟩)), (1, .string p1), (6, .pointer (some ⟨bp0, 0, none⟩))]) rfl trivial fun a hk => ?_
    refine x_op hk rfl ?_
    obtain ⟨t4, hc5, H⟩ := bindS H
    refine op_call hk ent_30 (vs := [.pointer (some ⟨bp0, 0, none⟩)]) rfl (strings_Builder_copyCheck_calls bp0 Ap0_0 cp0_0 p0 _ oi 1 ((f900019).imp fun _ h_ => Bl.of h_ (.inl rfl)) 2 f900000 hcp0_0 (by decide)   _ hc5) ?_
    rintro _ w6 ⟨o7, A10, c11, rfl, st8, f9, f12, hc13⟩
    replace hs := hs.locM st8 (by decide) hom
    obtain ⟨pb14, hb15, f9⟩ := Bl.open f9
    have hk := hk.put 7 (.tuple #[]) rfl
    refine wpListIn_nil ?_
    refine then_n ?_
    refine x_seq ?_
    refine wpIn_region_lit ?_
    refine x_run tab hk (k := 6) (lv := [.slice A10 (t4.buf).length c11]) (ks := [1, 8, 12, 13]) (e' := [(1, .string p1), (8, .pointer (some ⟨bp0, 0, none⟩)), (12, .slice A10 (t4.buf).length c11), (13, .string p1)]) rfl ⟨(load1 tab rfl ((Bx.cell f9.now 1).trans rfl)), trivial⟩ fun a hk => ?_
    refine x_op hk rfl ?_
    obtain ⟨q19, H⟩ := ifS H
    refine op_appendS (o := o7) (xs := t4.buf) (y := p1) tab hk rfl rfl rfl rfl rfl f12 q19 fun A20 c21 w16 o17 st18 f22 hc23 => ?_
    replace f9 := f9.st st18 (by decide)
    replace hs := hs.locM st18 (by decide) hom
    have hk := hk.put 14 (.slice A20 ((t4.buf ++ numsOf p1)).length c21) rfl
    refine x_run tab hk (k := 2) (lv := []) (ks := [1, 14, 16]) (e' := [(1, .string p1), (14, .slice A20 ((t4.buf ++ numsOf p1)).length c21), (16, .pointer (some ((⟨bp0, 0, none⟩ : Addr).add 1)))]) rfl trivial fun a hk => ?_
    refine x_op hk rfl ?_
    refine op_store tab hk (t := 51) (v := .slice A20 ((t4.buf ++ numsOf p1)).length c21) (b := bp0) (k := 1) (cs' := [.pointer pb14, .slice A20 ((t4.buf ++ numsOf p1)).length c21]) rfl rfl rfl rfl rfl rfl f9 rfl rfl fun w24 o25 st26 f9_ => ?_
    replace f22 := f22.st st26 (by decide)
    replace hs := hs.locM st26 (by decide) hom
    replace f9 := f9_
    refine wpListIn_nil ?_
    refine then_n ?_
    refine x_seq ?_
    refine wpIn_region_lit ?_
    refine x_run tab hk (k := 4) (lv := []) (ks := [4, 5]) (e' := [(4, .int .i64 ((p1).size : Int)), (5, .nilIface)]) rfl trivial fun a hk => ?_
    refine wpListIn_nil ?_
    refine then_n ?_
    refine wpIn_ret ?_
    obtain rfl := Option.some.inj H
    exact x_retG hk (rs := [.tmp 4, .tmp 5]) (vs := [.int .i64 ((p1).size : Int), .nilIface]) rfl ⟨rfl, rfl, trivial⟩ ⟨fun b_ => if b_ < w.heap.size then o b_ else (fun l_ => if l_ = 1 then Lp0 else if l_ = 2 then Lp0_0 else 0) (o25 b_), A20, c21, rfl, hs.closeM hoz (by decide) (fun l_ => if l_ = 1 then Lp0 else if l_ = 2 then Lp0_0 else 0), ((hs.closeM_ft (o := o) (ρ := fun l_ => if l_ = 1 then Lp0 else if l_ = 2 then Lp0_0 else 0) f9 (lab_at hoa (i := 0) rfl) rfl).imp fun _ h_ => Bl.of h_ hb15), hs.closeM_ft (o := o) (ρ := fun l_ => if l_ = 1 then Lp0 else if l_ = 2 then Lp0_0 else 0) f22 (lab_at hoa (i := 1) rfl) rfl, hc23⟩
  · skip
    refine x_seq ?_
    refine wpIn_region_lit ?_
    refine x_run tab hk (k := 2) (lv := []) (ks := [0, 1]) (e' := [(0, .pointer (some ⟨bp0, 0, none⟩)), (1, .string p1)]) rfl trivial fun a hk => ?_
    refine wpListIn_nil ?_
    refine then_n ?_
    refine x_seq ?_
    refine wpIn_region_lit ?_
    refine x_run tab hk (k := 1) (lv := []) (ks := [0, 1, 6]) (e' := [(0, .pointer (some ⟨bp0, 0, none⟩)), (1, .string p1), (6, .pointer (some ⟨bp0, 0, none⟩))]) rfl trivial fun a hk => ?_
    refine x_op hk rfl ?_
    obtain ⟨t30, hc31, H⟩ := bindS H
    refine op_call hk ent_30 (vs := [.pointer (some ⟨bp0, 0, none⟩)]) rfl (strings_Builder_copyCheck_calls bp0 Ap0_0 cp0_0 p0 _ oi 1 ((f900019).imp fun _ h_ => Bl.of h_ (.inr rfl)) 2 f900000 hcp0_0 (by decide)   _ hc31) ?_
    rintro _ w32 ⟨o33, A36, c37, rfl, st34, f35, f38, hc39⟩
    replace hs := hs.locM st34 (by decide) hom
    obtain ⟨pb40, hb41, f35⟩ := Bl.open f35
    have hk := hk.put 7 (.tuple #[]) rfl
    refine wpListIn_nil ?_
    refine then_n ?_
    refine x_seq ?_
    refine wpIn_region_lit ?_
    refine x_run tab hk (k := 6) (lv := [.slice A36 (t30.buf).length c37]) (ks := [1, 8, 12, 13]) (e' := [(1, .string p1), (8, .pointer (some ⟨bp0, 0, none⟩)), (12, .slice A36 (t30.buf).length c37), (13, .string p1)]) rfl ⟨(load1 tab rfl ((Bx.cell f35.now 1).trans rfl)), trivial⟩ fun a hk => ?_
    refine x_op hk rfl ?_
    obtain ⟨q45, H⟩ := ifS H
    refine op_appendS (o := o33) (xs := t30.buf) (y := p1) tab hk rfl rfl rfl rfl rfl f38 q45 fun A46 c47 w42 o43 st44 f48 hc49 => ?_
    replace f35 := f35.st st44 (by decide)
    replace hs := hs.locM st44 (by decide) hom
    have hk := hk.put 14 (.slice A46 ((t30.buf ++ numsOf p1)).length c47) rfl
    refine x_run tab hk (k := 2) (lv := []) (ks := [1, 14, 16]) (e' := [(1, .string p1), (14, .slice A46 ((t30.buf ++ numsOf p1)).length c47), (16, .pointer (some ((⟨bp0, 0, none⟩ : Addr).add 1)))]) rfl trivial fun a hk => ?_
    refine x_op hk rfl ?_
    refine op_store tab hk (t := 51) (v := .slice A46 ((t30.buf ++ numsOf p1)).length c47) (b := bp0) (k := 1) (cs' := [.pointer pb40, .slice A46 ((t30.buf ++ numsOf p1)).length c47]) rfl rfl rfl rfl rfl rfl f35 rfl rfl fun w50 o51 st52 f35_ => ?_
    replace f48 := f48.st st52 (by decide)
    replace hs := hs.locM st52 (by decide) hom
    replace f35 := f35_
    refine wpListIn_nil ?_
    refine then_n ?_
    refine x_seq ?_
    refine wpIn_region_lit ?_
    refine x_run tab hk (k := 4) (lv := []) (ks := [4, 5]) (e' := [(4, .int .i64 ((p1).size : Int)), (5, .nilIface)]) rfl trivial fun a hk => ?_
    refine wpListIn_nil ?_
    refine then_n ?_
    refine wpIn_ret ?_
    obtain rfl := Option.some.inj H
    exact x_retG hk (rs := [.tmp 4, .tmp 5]) (vs := [.int .i64 ((p1).size : Int), .nilIface]) rfl ⟨rfl, rfl, trivial⟩ ⟨fun b_ => if b_ < w.heap.size then o b_ else (fun l_ => if l_ = 1 then Lp0 else if l_ = 2 then Lp0_0 else 0) (o51 b_), A46, c47, rfl, hs.closeM hoz (by decide) (fun l_ => if l_ = 1 then Lp0 else if l_ = 2 then Lp0_0 else 0), ((hs.closeM_ft (o := o) (ρ := fun l_ => if l_ = 1 then Lp0 else if l_ = 2 then Lp0_0 else 0) f35 (lab_at hoa (i := 0) rfl) rfl).imp fun _ h_ => Bl.of h_ hb41), hs.closeM_ft (o := o) (ρ := fun l_ => if l_ = 1 then Lp0 else if l_ = 2 then Lp0_0 else 0) f48 (lab_at hoa (i := 1) rfl) rfl, hc49⟩

/-! (*strings.Builder).String -/
theorem strings_Builder_String_calls (bp0 : Nat) (Ap0_0 : Option Addr) (cp0_0 : Nat) (p0 : T52) (w : World) (o : Nat → Nat) (Lp0 : Nat) (hp0 : Ft (Bl bp0 53 (.slice Ap0_0 (p0.buf).length cp0_0)) w o Lp0) (Lp0_0 : Nat) (hp0_0 : Ft (Own (encInt .u8) 5 (.slice Ap0_0 (p0.buf).length cp0_0) p0.buf) w o Lp0_0) (hcp0_0 : (p0.buf).length ≤ cp0_0) (hd0 : ([Lp0, Lp0_0] : List Nat).Nodup) (r : ByteArray) (H : strings_Builder_String p0 = some r) :
    Calls Try.prog 22 #[.pointer (some ⟨bp0, 0, none⟩)] w (Ret fun v_ w' => ∃ o' : Nat → Nat, v_ = .string r ∧ St [Lp0, Lp0_0] w o w' o') := by
  refine x_enter (vs := [.pointer (some ⟨bp0, 0, none⟩)]) Try.func22 rfl rfl rfl fun a hk => ?_
  obtain ⟨oi, hs0, h0, h1, hob, hoz, hoa⟩ := St.startM2 w o (m := 2) hd0 rfl
  have hs := hs0 [1, 2]
  have hom := lab_in hob (MM := [1, 2]) (by decide)
  have f900000 := h1 1 2 hp0_0 rfl rfl
  have f900019 := h1 0 1 hp0 rfl rfl
  clear h0 h1 hs0
  rw [strings_Builder_String] at H
  obtain ⟨pb_, hpb_, f900019⟩ := Bl.open f900019
  rcases hpb_ with rfl | rfl
  · skip
    refine x_seq ?_
    refine wpIn_region_lit ?_
    refine x_run tab hk (k := 1) (lv := []) (ks := [0]) (e' := [(0, .pointer (some ⟨bp0, 0, none⟩))]) rfl trivial fun a hk => ?_
    refine wpListIn_nil ?_
    refine then_n ?_
    refine x_seq ?_
    refine xd_begin (o := oi) (fun W_ => (Bx bp0 53 [.pointer none, .slice Ap0_0 (p0.buf).length cp0_0]) W_ ∧ True) mixed rfl rfl fun w17 st18 => ?_
    replace f900000 := f900000.st st18 (by decide)
    replace f900019 := f900019.st st18 (by decide)
    replace hs := hs.locM st18 (by decide) hom
    refine xd_take tab hk (k := 3) (is := [0, 1, 2, 3, 5, 6, 7, 8, 9]) (ls' := #[true, true, true, true, false, true, true, true, true, true, false, false]) (lv := [.slice Ap0_0 (p0.buf).length cp0_0, .slice Ap0_0 (p0.buf).length cp0_0]) (ks := [6, 12]) (e' := [(6, .slice Ap0_0 (p0.buf).length cp0_0), (12, .int .i64 ((p0.buf).length : Int))]) (by kernel_rfl) rfl rfl (by kernel_rfl) (np_then np_body) ⟨f900019.now, trivial⟩ (fun W_ hS => ⟨(load1 tab rfl ((Bx.cell hS.1 1).trans rfl)), (load1 tab rfl ((Bx.cell hS.1 1).trans rfl)), trivial⟩) fun a hk => ?_
    refine xd_op hk (i := 4) (by kernel_rfl) rfl rfl ?_
    refine op_sdata (o := oi) hk tab (xs := p0.buf) rfl rfl f900000 fun p22 w19 o20 st21 hp23 => ?_
    replace f900000 := f900000.st st21 (by decide)
    replace f900019 := f900019.st st21 (by decide)
    replace hs := hs.locM st21 (by decide) hom
    have hk := hk.put 7 (.pointer p22) rfl
    refine ⟨.inr ⟨f900019.now, trivial⟩, ?_⟩
    refine xd_op hk (i := 10) (by kernel_rfl) rfl rfl ?_
    refine op_ustr hk tab (xs := p0.buf) rfl rfl rfl rfl hp23 f900000 fun w24 st26 => ?_
    replace f900019 := f900019.st st26 (by decide)
    replace hs := hs.locM st26 (by decide) hom
    have hk := hk.put 13 (.string (strOfNums p0.buf)) rfl
    refine ⟨.inr ⟨f900019.now, trivial⟩, ?_⟩
    refine xd_take tab hk (k := 0) (is := [11]) (ls' := #[true, true, true, true, true, true, true, true, true, true, true, true]) (lv := []) (ks := [2]) (e' := [(2, .string (strOfNums p0.buf))]) (by kernel_rfl) rfl rfl (by kernel_rfl) (np_then np_body) ⟨f900019.now, trivial⟩ (fun W_ hS => trivial) fun a hk => ?_
    refine xd_done (by kernel_rfl) ?_
    refine then_n ?_
    refine wpIn_ret ?_
    obtain rfl := Option.some.inj H
    exact x_retG hk (rs := [.tmp 2]) (vs := [.string (strOfNums p0.buf)]) rfl ⟨rfl, trivial⟩ ⟨fun b_ => if b_ < w.heap.size then o b_ else (fun _ => 0) (o20 b_), rfl, hs.closeM hoz (by decide) (fun _ => 0)⟩
  · skip
    refine x_seq ?_
    refine wpIn_region_lit ?_
    refine x_run tab hk (k := 1) (lv := []) (ks := [0]) (e' := [(0, .pointer (some ⟨bp0, 0, none⟩))]) rfl trivial fun a hk => ?_
    refine wpListIn_nil ?_
    refine then_n ?_
    refine x_seq ?_
    refine xd_begin (o := oi) (fun W_ => (Bx bp0 53 [.pointer (some ⟨bp0, 0, none⟩), .slice Ap0_0 (p0.buf).length cp0_0]) W_ ∧ True) mixed rfl rfl fun w43 st44 => ?_
    replace f900000 := f900000.st st44 (by decide)
    replace f900019 := f900019.st st44 (by decide)
    replace hs := hs.locM st44 (by decide) hom
    refine xd_take tab hk (k := 3) (is := [0, 1, 2, 3, 5, 6, 7, 8, 9]) (ls' := #[true, true, true, true, false, true, true, true, true, true, false, false]) (lv := [.slice Ap0_0 (p0.buf).length cp0_0, .slice Ap0_0 (p0.buf).length cp0_0]) (ks := [6, 12]) (e' := [(6, .slice Ap0_0 (p0.buf).length cp0_0), (12, .int .i64 ((p0.buf).length : Int))]) (by kernel_rfl) rfl rfl (by kernel_rfl) (np_then np_body) ⟨f900019.now, trivial⟩ (fun W_ hS => ⟨(load1 tab rfl ((Bx.cell hS.1 1).trans rfl)), (load1 tab rfl ((Bx.cell hS.1 1).trans rfl)), trivial⟩) fun a hk => ?_
    refine xd_op hk (i := 4) (by kernel_rfl) rfl rfl ?_
    refine op_sdata (o := oi) hk tab (xs := p0.buf) rfl rfl f900000 fun p48 w45 o46 st47 hp49 => ?_
    replace f900000 := f900000.st st47 (by decide)
    replace f900019 := f900019.st st47 (by decide)
    replace hs := hs.locM st47 (by decide) hom
    have hk := hk.put 7 (.pointer p48) rfl
    refine ⟨.inr ⟨f900019.now, trivial⟩, ?_⟩
    refine xd_op hk (i := 10) (by kernel_rfl) rfl rfl ?_
    refine op_ustr hk tab (xs := p0.buf) rfl rfl rfl rfl hp49 f900000 fun w50 st52 => ?_
    replace f900019 := f900019.st st52 (by decide)
    replace hs := hs.locM st52 (by decide) hom
    have hk := hk.put 13 (.string (strOfNums p0.buf)) rfl
    refine ⟨.inr ⟨f900019.now, trivial⟩, ?_⟩
    refine xd_take tab hk (k := 0) (is := [11]) (ls' := #[true, true, true, true, true, true, true, true, true, true, true, true]) (lv := []) (ks := [2]) (e' := [(2, .string (strOfNums p0.buf))]) (by kernel_rfl) rfl rfl (by kernel_rfl) (np_then np_body) ⟨f900019.now, trivial⟩ (fun W_ hS => trivial) fun a hk => ?_
    refine xd_done (by kernel_rfl) ?_
    refine then_n ?_
    refine wpIn_ret ?_
    obtain rfl := Option.some.inj H
    exact x_retG hk (rs := [.tmp 2]) (vs := [.string (strOfNums p0.buf)]) rfl ⟨rfl, trivial⟩ ⟨fun b_ => if b_ < w.heap.size then o b_ else (fun _ => 0) (o46 b_), rfl, hs.closeM hoz (by decide) (fun _ => 0)⟩

/-! (*tidewrack/parts.Slot).Whole -/
theorem parts_Slot_Whole_calls (K : Nat) (bp0 : Nat) (Ap0_0 : Option Addr) (cp0_0 : Nat) (p0 : T29) (w : World) (o : Nat → Nat) (Lp0 : Nat) (hp0 : Ft (Bx bp0 30 [.int .i64 p0.key, .int .i64 p0.count, mv Ap0_0, .int .i64 p0.bytes]) w o Lp0) (Lp0_0 : Nat) (hp0_0 : Ft (MpF encStr false Ap0_0 p0.parts) w o Lp0_0) (hcp0_0 : (p0.parts).length ≤ cp0_0)  (r : ByteArray × Bool) (H : parts_Slot_Whole K p0 = some r) :
    Calls Try.prog 12 #[.pointer (some ⟨bp0, 0, none⟩)] w (Ret fun v_ w' => ∃ o' : Nat → Nat, v_ = .tuple #[.string r.1, .bool r.2] ∧ St [] w o w' o') := by
  refine x_enterQ (vs := [.pointer (some ⟨bp0, 0, none⟩)]) Try.func12 rfl rfl rfl fun a hk => ?_
  obtain ⟨o0, hs, h0⟩ := St.start w o
  have f900000 := h0 _ _ hp0_0
  have f900019 := h0 _ _ hp0
  have fxm : Ft (MK []) w o0 1 := Ft.of_all (fun _ => MK.nil _) _ _ _
  clear h0
  rw [parts_Slot_Whole] at H
  refine x_seq ?_
  refine wpIn_region_lit ?_
  refine x_op hk rfl ?_
  refine op_box (o := o0) (t := 44) (v := .pointer (some ⟨bp0, 0, none⟩)) (cs := [.pointer (some ⟨bp0, 0, none⟩)]) hk rfl rfl 2 fun bx4 w1 o2 st3 f5 => ?_
  replace f900000 := f900000.st st3 (by decide)
  replace f900019 := f900019.st st3 (by decide)
  replace fxm := fxm.st st3 (by decide)
  replace hs := hs.loc0 st3 (by decide)
  have hk := hk.put 1 (.pointer (some ⟨bx4, 0, none⟩)) rfl
  refine x_run tab hk (k := 2) (lv := []) (ks := [1]) (e' := [(1, .pointer (some ⟨bx4, 0, none⟩))]) rfl trivial fun a hk => ?_
  refine wpListIn_nil ?_
  refine then_n ?_
  refine x_mid (fun a_ w_ => ∃ o35 : Nat → Nat, ∃ ds36 : List Deferred, KnD 35 ds36 a_ [(1, .pointer (some ⟨bx4, 0, none⟩))] ∧ St [] w (fun _ => 0) w_ o35 ∧ Ft (Bx bx4 44 [.pointer (some ⟨bp0, 0, none⟩)]) w_ o35 4 ∧ Ft (MpF encStr false Ap0_0 p0.parts) w_ o35 0 ∧ Ft (Bx bp0 30 [.int .i64 p0.key, .int .i64 p0.count, mv Ap0_0, .int .i64 p0.bytes]) w_ o35 0 ∧ Ft (MK ds36) w_ o35 1 ∧ parts_Slot_Whole_j1 K p0 = some r) ?_ ?_
  rotate_left
  · rintro a w37 ⟨o35, ds36, hk, hs, f5, f900000, f900019, fxm, H⟩
    rw [parts_Slot_Whole_j1] at H
    refine x_seq ?_
    refine wpIn_region_lit ?_
    refine x_op hk rfl ?_
    refine op_alloc (o := o35) tab (t := 53) (cs := [.pointer none, .slice none 0 0]) rfl rfl 5 fun bx41 w38 o39 st40 f42 => ?_
    replace f5 := f5.st st40 (by decide)
    replace f900000 := f900000.st st40 (by decide)
    replace f900019 := f900019.st st40 (by decide)
    replace fxm := fxm.st st40 (by decide)
    replace hs := hs.loc0 st40 (by decide)
    have hk := hk.put 4 (.pointer (some ⟨bx41, 0, none⟩)) rfl
    replace f42 := f42.imp fun _ h_ => Bl.of h_ (.inl rfl)
    refine wpListIn_nil ?_
    refine then_n ?_
    refine x_mid (fun a_ w_ => ∃ o126 : Nat → Nat, ∃ ds127 : List Deferred, ∃ A128 : Option Addr, ∃ c129 : Nat, ∃ l130 : List Int, KnD 35 ds127 a_ [(4, .pointer (some ⟨bx41, 0, none⟩))] ∧ St [] w (fun _ => 0) w_ o126 ∧ Ft (Own (encInt .u8) 5 (.slice A128 (l130).length c129) l130) w_ o126 12 ∧ Ft (Bl bx41 53 (.slice A128 (l130).length c129)) w_ o126 13 ∧ Ft (MpF encStr false Ap0_0 p0.parts) w_ o126 0 ∧ Ft (Bx bp0 30 [.int .i64 p0.key, .int .i64 p0.count, mv Ap0_0, .int .i64 p0.bytes]) w_ o126 0 ∧ Ft (MK ds127) w_ o126 1 ∧ (l130).length ≤ c129 ∧ parts_Slot_Whole_j2 l130 = some r) ?_ ?_
    rotate_left
    · rintro a w133 ⟨o126, ds127, A128, c129, l130, hk, hs, f131, f42, f900000, f900019, fxm, hc132, H⟩
      rw [parts_Slot_Whole_j2] at H
      refine x_seq ?_
      refine wpIn_region_lit ?_
      refine x_op hk rfl ?_
      obtain ⟨t137, hc138, H⟩ := bindS H
      refine op_call hk ent_22 (vs := [.pointer (some ⟨bx41, 0, none⟩)]) rfl (strings_Builder_String_calls bx41 A128 c129 (⟨l130⟩ : T52) _ o126 13 f42 12 f131 hc132 (by decide)   _ hc138) ?_
      rintro _ w139 ⟨o140, rfl, st141⟩
      replace f900000 := f900000.st st141 (by decide)
      replace f900019 := f900019.st st141 (by decide)
      replace fxm := fxm.st st141 (by decide)
      replace hs := hs.loc0 st141 (by decide)
      have hk := hk.put 34 (.string t137) rfl
      refine x_run tab hk (k := 2) (lv := []) (ks := [2, 3]) (e' := [(2, .string t137), (3, .bool true)]) rfl trivial fun a hk => ?_
      refine wpListIn_nil ?_
      refine then_n ?_
      refine wpIn_ret ?_
      refine x_retQ hk fxm fun w142 a st143 hk => ?_
      replace f900000 := f900000.st st143 (by decide)
      replace f900019 := f900019.st st143 (by decide)
      replace hs := hs.loc0 st143 (by decide)
      obtain rfl := Option.some.inj H
      exact x_retG hk (rs := [.tmp 2, .tmp 3]) (vs := [.string t137, .bool true]) rfl ⟨rfl, rfl, trivial⟩ ⟨fun b_ => if b_ < w.heap.size then o b_ else (fun _ => 0) (o140 b_), rfl, hs.close0 o (fun _ => 0)⟩
    refine x_seq ?_
    refine wpIn_region_lit ?_
    refine x_run tab hk (k := 2) (lv := [.pointer (some ⟨bp0, 0, none⟩)]) (ks := [1, 4, 24]) (e' := [(1, .pointer (some ⟨bx4, 0, none⟩)), (4, .pointer (some ⟨bx41, 0, none⟩)), (24, .func (.func 20) #[.pointer (some ⟨bp0, 0, none⟩)] #[])]) rfl ⟨(load1 tab rfl ((Bx.cell f5.now 0).trans rfl)), trivial⟩ fun a hk => ?_
    refine wpListIn_nil ?_
    refine then_n ?_
    refine wpIn_block ?_
    obtain ⟨ys144, hy145, H⟩ := bindS H
    refine x_range 1 14 15 [5, 18] hk rfl ent_20 (parts_Slot_each_iter K bp0 Ap0_0 cp0_0 p0 _ _ 0 f900019 0 f900000 hcp0_0 (by decide) (by decide) (by decide) _ hy145) fxm (fun _ _ _ h_ => by subst h_; rfl) rfl rfl (fun rr_ w_ o175 => ∃ A176 : Option Addr, ∃ c177 : Nat, ∃ l178 : List Int, St [] w (fun _ => 0) w_ o175 ∧ Ft (Own (encInt .u8) 5 (.slice A176 (l178).length c177) l178) w_ o175 18 ∧ Ft (Bl bx41 53 (.slice A176 (l178).length c177)) w_ o175 5 ∧ Ft (Bx bx4 44 [.pointer (some ⟨bp0, 0, none⟩)]) w_ o175 4 ∧ Ft (MpF encStr false Ap0_0 p0.parts) w_ o175 0 ∧ Ft (Bx bp0 30 [.int .i64 p0.key, .int .i64 p0.count, mv Ap0_0, .int .i64 p0.bytes]) w_ o175 0 ∧ (l178).length ≤ c177 ∧ parts_Slot_Whole_r3 p0 rr_ l178 = some r) (fun c_ w_ o196 => False) ?_ ?_ ⟨none, 0, ([] : List Int), hs, (Ft.of_all (fun _ => Own.nil _ _ _) _ _ _), f42, f5, f900000, f900019, (by simp), H⟩ ?_ ?_ ?_
    · rintro rr_ w_ _ _ _ ⟨A176, c177, l178, hs, f179, f42, f5, f900000, f900019, hc180, H⟩ st_
      exact ⟨A176, c177, l178, hs.loc0 st_ (by decide), f179.st st_ (by decide), f42.st st_ (by decide), f5.st st_ (by decide), f900000.st st_ (by decide), f900019.st st_ (by decide), hc180, H⟩
    · exact fun _ _ _ _ _ h_ _ => h_.elim
    · rintro R0_ R1_ lr_ x146 vs_ rest147 w148 o149 ⟨A176, c177, l178, hsO, f179, f42, f5, f900000, f900019, hc180, H⟩ hE fxr a hk
      obtain rfl : vs_ = [.int .i64 x146.1, .bool x146.2] := hE w148
      obtain ⟨o150, hs0, hfl, hbB, hoi⟩ := St.startB w148 o149 18
      have hs := hs0 [14, 5, 18]
      replace f179 := hfl f179 rfl
      replace f42 := hfl f42 rfl
      replace f5 := hfl f5 rfl
      replace f900000 := hfl f900000 rfl
      replace f900019 := hfl f900019 rfl
      replace fxr := hfl fxr rfl
      replace hk : Kn 35 a [(1, .pointer (some ⟨bx4, 0, none⟩)), (4, .pointer (some ⟨bx41, 0, none⟩)), (25, .int .i64 x146.1), (26, .bool x146.2)] := Kn.pick (ks := [1, 4, 25, 26]) hk rfl
      rw [parts_Slot_Whole_r3] at H
      obtain ⟨lp151, hlp152⟩ : ∃ lp_, lp_ = parts_Slot_Whole_r3 p0 rest147 := ⟨_, rfl⟩
      rw [← hlp152] at H
      refine wpIn_region_lit ?_
      refine x_run tab hk (k := 1) (lv := []) (ks := [1, 4, 5]) (e' := [(1, .pointer (some ⟨bx4, 0, none⟩)), (4, .pointer (some ⟨bx41, 0, none⟩)), (5, .int .i64 x146.1)]) rfl trivial fun a hk => ?_
      refine wpListIn_nil ?_
      refine then_n ?_
      refine ⟨_, fxr, fun w199 st200 fxr => ?_⟩
      replace f179 := f179.st st200 (by decide)
      replace f42 := f42.st st200 (by decide)
      replace f5 := f5.st st200 (by decide)
      replace f900000 := f900000.st st200 (by decide)
      replace f900019 := f900019.st st200 (by decide)
      replace hs := hs.locB st200 rfl hbB
      refine wpIn_block ?_
      refine wpIn_region_lit ?_
      refine x_run tab hk (k := 6) (lv := [.pointer (some ⟨bp0, 0, none⟩), mv Ap0_0, .string (M.get (⟨#[]⟩ : ByteArray) p0.parts x146.1)]) (ks := [1, 4, 32]) (e' := [(1, .pointer (some ⟨bx4, 0, none⟩)), (4, .pointer (some ⟨bx41, 0, none⟩)), (32, .string (M.get (⟨#[]⟩ : ByteArray) p0.parts x146.1))]) rfl ⟨(load1 tab rfl ((Bx.cell f5.now 0).trans rfl)), (load1 tab rfl ((Bx.cell f900019.now 2).trans rfl)), (ask_look1 (E := encStr) (ag := false) (zx := (⟨#[]⟩ : ByteArray)) tab rfl rfl rfl rfl f900000.now rfl rfl), trivial⟩ fun a hk => ?_
      refine x_op hk rfl ?_
      obtain ⟨t204, hc205, H⟩ := bindS H
      refine op_call hk ent_21 (vs := [.pointer (some ⟨bx41, 0, none⟩), .string (M.get (⟨#[]⟩ : ByteArray) p0.parts x146.1)]) rfl (strings_Builder_WriteString_calls bx41 A176 c177 (⟨l178⟩ : T52) (M.get (⟨#[]⟩ : ByteArray) p0.parts x146.1) _ o150 5 f42 18 f179 hc180 (by decide)   _ hc205) ?_
      rintro _ w206 ⟨o207, A210, c211, rfl, st208, f209, f212, hc213⟩
      replace f5 := f5.st st208 (by decide)
      replace f900000 := f900000.st st208 (by decide)
      replace f900019 := f900019.st st208 (by decide)
      replace fxr := fxr.st st208 (by decide)
      replace hs := hs.locB st208 rfl hbB
      have hk := hk.put 33 (.tuple #[.int .i64 t204.1, .nilIface]) rfl
      refine wpListIn_nil ?_
      refine blk_n ?_
      have hq214 := hs.closeB hoi hbB rfl (fun l_ => if l_ = 4 then 4 else if l_ = 5 then 5 else if l_ = 18 then 18 else 0)
      exact ⟨_, hq214, fxr.now, ⟨A210, c211, t204.2.buf, (hsO.loc0 hq214 (by decide)), (hs.closeM_ft (o := o149) (ρ := (fun l_ => if l_ = 4 then 4 else if l_ = 5 then 5 else if l_ = 18 then 18 else 0)) f212 (lab_atB hoi rfl) rfl), (hs.closeM_ft (o := o149) (ρ := (fun l_ => if l_ = 4 then 4 else if l_ = 5 then 5 else if l_ = 18 then 18 else 0)) f209 (lab_atB hoi rfl) rfl), (hs.closeM_ft (o := o149) (ρ := (fun l_ => if l_ = 4 then 4 else if l_ = 5 then 5 else if l_ = 18 then 18 else 0)) f5 (lab_atB hoi rfl) rfl), (hs.closeM_ft (o := o149) (ρ := (fun l_ => if l_ = 4 then 4 else if l_ = 5 then 5 else if l_ = 18 then 18 else 0)) f900000 (lab_atB hoi rfl) rfl), (hs.closeM_ft (o := o149) (ρ := (fun l_ => if l_ = 4 then 4 else if l_ = 5 then 5 else if l_ = 18 then 18 else 0)) f900019 (lab_atB hoi rfl) rfl), hc213, (hlp152 ▸ H)⟩⟩
    · rintro ds198 w197 o175 a hk fxm ⟨A176, c177, l178, hs, f179, f42, f5, f900000, f900019, hc180, H⟩
      rw [parts_Slot_Whole_r3] at H
      refine blk_n ?_
      refine then_n ?_
      exact ⟨(fun b_ => (fun l_ => if l_ = 5 then 13 else if l_ = 18 then 12 else l_) (o175 b_)), ds198, A176, c177, l178, (by exact Kn.pick (ks := [4]) hk rfl), (hs.relab0 (fun l_ => if l_ = 5 then 13 else if l_ = 18 then 12 else l_) rfl), (f179.relab (fun l_ => if l_ = 5 then 13 else if l_ = 18 then 12 else l_) rfl), (f42.relab (fun l_ => if l_ = 5 then 13 else if l_ = 18 then 12 else l_) rfl), (f900000.relab (fun l_ => if l_ = 5 then 13 else if l_ = 18 then 12 else l_) rfl), (f900019.relab (fun l_ => if l_ = 5 then 13 else if l_ = 18 then 12 else l_) rfl), (fxm.relab (fun l_ => if l_ = 5 then 13 else if l_ = 18 then 12 else l_) rfl), hc180, H⟩
    · exact fun _ _ _ _ _ _ _ h_ => h_.elim
  refine x_mid (fun a_ w_ => ∃ o228 : Nat → Nat, ∃ ds229 : List Deferred, ∃ x230 : Bool, KnD 35 ds229 a_ [(1, .pointer (some ⟨bx4, 0, none⟩)), (22, .bool x230)] ∧ St [] w (fun _ => 0) w_ o228 ∧ Ft (Bx bx4 44 [.pointer (some ⟨bp0, 0, none⟩)]) w_ o228 20 ∧ Ft (MpF encStr false Ap0_0 p0.parts) w_ o228 0 ∧ Ft (Bx bp0 30 [.int .i64 p0.key, .int .i64 p0.count, mv Ap0_0, .int .i64 p0.bytes]) w_ o228 0 ∧ Ft (MK ds229) w_ o228 1 ∧ parts_Slot_Whole_j4 K p0 x230 = some r) ?_ ?_
  rotate_left
  · rintro a w231 ⟨o228, ds229, x230, hk, hs, f5, f900000, f900019, fxm, H⟩
    rw [parts_Slot_Whole_j4] at H
    cases b232 : x230
    · rw [b232] at hk H
      replace H := bifF H
      refine x_if hk (b := false) rfl ?_
      refine (show Code.wpIn _ _ _ _ _ _ _ from ?_)
      refine wpIn_skip ?_
      refine then_n ?_
      exact ⟨(fun b_ => (fun l_ => if l_ = 20 then 4 else l_) (o228 b_)), ds229, (by exact Kn.pick (ks := [1]) hk rfl), (hs.relab0 (fun l_ => if l_ = 20 then 4 else l_) rfl), (f5.relab (fun l_ => if l_ = 20 then 4 else l_) rfl), (f900000.relab (fun l_ => if l_ = 20 then 4 else l_) rfl), (f900019.relab (fun l_ => if l_ = 20 then 4 else l_) rfl), (fxm.relab (fun l_ => if l_ = 20 then 4 else l_) rfl), H⟩
    · rw [b232] at hk H
      replace H := bifT H
      refine x_if hk (b := true) rfl ?_
      refine (show Code.wpIn _ _ _ _ _ _ _ from ?_)
      refine x_seq ?_
      refine wpIn_region_lit ?_
      refine x_run tab hk (k := 2) (lv := []) (ks := [2, 3]) (e' := [(2, .string (⟨#[]⟩ : ByteArray)), (3, .bool false)]) rfl trivial fun a hk => ?_
      refine wpListIn_nil ?_
      refine then_n ?_
      refine wpIn_ret ?_
      refine then_r ?_
      refine x_retQ hk fxm fun w233 a st234 hk => ?_
      replace f900000 := f900000.st st234 (by decide)
      replace f900019 := f900019.st st234 (by decide)
      replace hs := hs.loc0 st234 (by decide)
      obtain rfl := Option.some.inj H
      exact x_retG hk (rs := [.tmp 2, .tmp 3]) (vs := [.string (⟨#[]⟩ : ByteArray), .bool false]) rfl ⟨rfl, rfl, trivial⟩ ⟨fun b_ => if b_ < w.heap.size then o b_ else (fun _ => 0) (o228 b_), rfl, hs.close0 o (fun _ => 0)⟩
  refine xd_begin (o := o2) (fun W_ => (Bx bx4 44 [.pointer (some ⟨bp0, 0, none⟩)]) W_ ∧ (MpF encStr false Ap0_0 p0.parts) W_ ∧ (Bx bp0 30 [.int .i64 p0.key, .int .i64 p0.count, mv Ap0_0, .int .i64 p0.bytes]) W_ ∧ True) mixed rfl rfl fun w237 st238 => ?_
  replace f5 := f5.st st238 (by decide)
  replace f900000 := f900000.st st238 (by decide)
  replace f900019 := f900019.st st238 (by decide)
  replace fxm := fxm.st st238 (by decide)
  replace hs := hs.loc0 st238 (by decide)
  refine xd_take tab hk (k := 11) (is := [0, 1, 2, 3, 4, 5]) (ls' := #[true, true, true, true, true, true, false, false, false, false, false, false, false, false, false, false, false]) (lv := [.pointer (some ⟨bp0, 0, none⟩), .int .i64 p0.key]) (ks := [1, 11]) (e' := [(1, .pointer (some ⟨bx4, 0, none⟩)), (11, .bool (p0.key == (0 : Int)))]) (by kernel_rfl) rfl rfl (by kernel_rfl) (np_then (np_then np_bodyQ)) ⟨f5.now, f900000.now, f900019.now, trivial⟩ (fun W_ hS => ⟨(load1 tab rfl ((Bx.cell hS.1 0).trans rfl)), (load1 tab rfl ((Bx.cell hS.2.2.1 0).trans rfl)), trivial⟩) fun a hk => ?_
  cases b239 : (p0.key == (0 : Int))
  · rw [b239] at hk H
    replace H := bifF H
    refine xd_take tab hk (k := 0) (is := [6, 7, 8, 9, 10, 11, 12, 13, 14, 15, 16]) (ls' := #[true, true, true, true, true, true, true, true, true, true, true, true, true, true, true, true, true]) (lv := [.pointer (some ⟨bp0, 0, none⟩), mv Ap0_0, .int .i64 ((p0.parts).length : Int), .pointer (some ⟨bp0, 0, none⟩), .int .i64 p0.count]) (ks := [1, 22]) (e' := [(1, .pointer (some ⟨bx4, 0, none⟩)), (22, .bool (decide (((p0.parts).length : Int) < p0.count)))]) (by kernel_rfl) rfl rfl (by kernel_rfl) (np_then (np_then np_bodyQ)) ⟨f5.now, f900000.now, f900019.now, trivial⟩ (fun W_ hS => ⟨(load1 tab rfl ((Bx.cell hS.1 0).trans rfl)), (load1 tab rfl ((Bx.cell hS.2.2.1 2).trans rfl)), (ask_mlen (E := encStr) (ag := false) tab rfl hS.2.1 rfl), (load1 tab rfl ((Bx.cell hS.1 0).trans rfl)), (load1 tab rfl ((Bx.cell hS.2.2.1 1).trans rfl)), trivial⟩) fun a hk => ?_
    refine xd_done (by kernel_rfl) ?_
    refine then_n ?_
    exact ⟨(fun b_ => (fun l_ => if l_ = 2 then 20 else l_) (o2 b_)), [], (decide (((p0.parts).length : Int) < p0.count)), (by exact Kn.pick (ks := [1, 22]) hk rfl), (hs.relab0 (fun l_ => if l_ = 2 then 20 else l_) rfl), (f5.relab (fun l_ => if l_ = 2 then 20 else l_) rfl), (f900000.relab (fun l_ => if l_ = 2 then 20 else l_) rfl), (f900019.relab (fun l_ => if l_ = 2 then 20 else l_) rfl), (fxm.relab (fun l_ => if l_ = 2 then 20 else l_) rfl), H⟩
  · rw [b239] at hk H
    replace H := bifT H
    refine xd_take tab hk (k := 0) (is := [6, 7, 8, 9, 10, 11, 12, 13, 14, 15, 16]) (ls' := #[true, true, true, true, true, true, true, true, true, true, true, true, true, true, true, true, true]) (lv := []) (ks := [1, 22]) (e' := [(1, .pointer (some ⟨bx4, 0, none⟩)), (22, .bool true)]) (by kernel_rfl) rfl rfl (by kernel_rfl) (np_then (np_then np_bodyQ)) ⟨f5.now, f900000.now, f900019.now, trivial⟩ (fun W_ hS => trivial) fun a hk => ?_
    refine xd_done (by kernel_rfl) ?_
    refine then_n ?_
    exact ⟨(fun b_ => (fun l_ => if l_ = 2 then 20 else l_) (o2 b_)), [], true, (by exact Kn.pick (ks := [1, 22]) hk rfl), (hs.relab0 (fun l_ => if l_ = 2 then 20 else l_) rfl), (f5.relab (fun l_ => if l_ = 2 then 20 else l_) rfl), (f900000.relab (fun l_ => if l_ = 2 then 20 else l_) rfl), (f900019.relab (fun l_ => if l_ = 2 then 20 else l_) rfl), (fxm.relab (fun l_ => if l_ = 2 then 20 else l_) rfl), H⟩

/-! (*tidewrack/parts.Slot).Key -/
theorem parts_Slot_Key_calls (bp0 : Nat) (Ap0_0 : Option Addr) (cp0_0 : Nat) (p0 : T29) (w : World) (o : Nat → Nat) (Lp0 : Nat) (hp0 : Ft (Bx bp0 30 [.int .i64 p0.key, .int .i64 p0.count, mv Ap0_0, .int .i64 p0.bytes]) w o Lp0) (Lp0_0 : Nat) (hp0_0 : Ft (MpF encStr false Ap0_0 p0.parts) w o Lp0_0) (hcp0_0 : (p0.parts).length ≤ cp0_0)  (r : Int) (H : parts_Slot_Key p0 = some r) :
    Calls Try.prog 19 #[.pointer (some ⟨bp0, 0, none⟩)] w (Ret fun v_ w' => ∃ o' : Nat → Nat, v_ = .int .i64 r ∧ St [] w o w' o') := by
  refine x_enter (vs := [.pointer (some ⟨bp0, 0, none⟩)]) Try.func19 rfl rfl rfl fun a hk => ?_
  obtain ⟨o0, hs, h0⟩ := St.start w o
  have f900000 := h0 _ _ hp0_0
  have f900019 := h0 _ _ hp0
  clear h0
  rw [parts_Slot_Key] at H
  refine x_seq ?_
  refine wpIn_region_lit ?_
  refine x_run tab hk (k := 1) (lv := []) (ks := [0]) (e' := [(0, .pointer (some ⟨bp0, 0, none⟩))]) rfl trivial fun a hk => ?_
  refine wpListIn_nil ?_
  refine then_n ?_
  refine x_seq ?_
  refine wpIn_region_lit ?_
  refine x_run tab hk (k := 5) (lv := [.int .i64 p0.key]) (ks := [2]) (e' := [(2, .int .i64 p0.key)]) rfl ⟨(load1 tab rfl ((Bx.cell f900019.now 0).trans rfl)), trivial⟩ fun a hk => ?_
  refine wpListIn_nil ?_
  refine then_n ?_
  refine wpIn_ret ?_
  obtain rfl := Option.some.inj H
  exact x_retG hk (rs := [.tmp 2]) (vs := [.int .i64 p0.key]) rfl ⟨rfl, trivial⟩ ⟨fun b_ => if b_ < w.heap.size then o b_ else (fun _ => 0) (o0 b_), rfl, hs.close0 o (fun _ => 0)⟩

/-! tidewrack/tidewracklaw04.awake -/
theorem tidewracklaw04_awake_calls (K : Nat)  (w : World) (o : Nat → Nat)   (r : Bool) (H : tidewracklaw04_awake K = some r) :
    Calls Try.prog 7 #[] w (Ret fun v_ w' => ∃ o' : Nat → Nat, v_ = .bool r ∧ St [] w o w' o') := by
  refine x_enter (vs := []) Try.func7 rfl rfl rfl fun a hk => ?_
  obtain ⟨o0, hs, h0⟩ := St.start w o
  clear h0
  rw [tidewracklaw04_awake] at H
  refine x_seq ?_
  refine wpIn_region_lit ?_
  refine x_run tab hk (k := 1) (lv := []) (ks := []) (e' := []) rfl trivial fun a hk => ?_
  refine wpListIn_nil ?_
  refine then_n ?_
  refine x_seq ?_
  refine wpIn_region_lit ?_
  refine x_op hk rfl ?_
  obtain ⟨t4, hc5, H⟩ := bindS H
  refine op_call hk ent_9 (vs := [.string (⟨#[97, 98, 99]⟩ : ByteArray), .int .i64 2]) rfl (parts_Split_calls K (⟨#[97, 98, 99]⟩ : ByteArray) 2 _ o0  1  _ hc5) ?_
  rintro _ w6 ⟨o7, A9, c10, rfl, st8, f11, hc12⟩
  replace hs := hs.loc0 st8 (by decide)
  have hk := hk.put 7 (.slice A9 (t4).length c10) rfl
  refine x_run tab hk (k := 1) (lv := []) (ks := [1]) (e' := [(1, .slice A9 (t4).length c10)]) rfl trivial fun a hk => ?_
  refine wpListIn_nil ?_
  refine then_n ?_
  refine x_seq ?_
  refine wpIn_region_lit ?_
  refine x_op hk rfl ?_
  refine op_alloc (o := o7) tab (t := 30) (cs := [.int .i64 0, .int .i64 0, mv none, .int .i64 0]) rfl rfl 2 fun bx16 w13 o14 st15 f17 => ?_
  replace f11 := f11.st st15 (by decide)
  replace hs := hs.loc0 st15 (by decide)
  have hk := hk.put 2 (.pointer (some ⟨bx16, 0, none⟩)) rfl
  refine wpListIn_nil ?_
  refine then_n ?_
  refine x_seq ?_
  refine wpIn_region_lit ?_
  refine x_op hk rfl ?_
  obtain ⟨t21, hc22, H⟩ := bindS H
  refine op_call hk ent_11 (vs := [.pointer (some ⟨bx16, 0, none⟩), .int .i64 1, .int .i64 1, .int .i64 2, .string (⟨#[99]⟩ : ByteArray)]) rfl (parts_Slot_Put_calls bx16 none 0 (⟨0, 0, (M.nil : M ByteArray), 0⟩ : T29) 1 1 2 (⟨#[99]⟩ : ByteArray) _ o14 2 f17 3 (Ft.of_all (fun _ => MpF.nil _ _ _) _ _ 3) (Nat.le_refl _) (by decide)   _ hc22) ?_
  rintro _ w23 ⟨o24, A27, c28, rfl, st25, f26, f29, hc30⟩
  replace f11 := f11.st st25 (by decide)
  replace hs := hs.loc0 st25 (by decide)
  have hk := hk.put 8 (.int .i64 t21.1) rfl
  refine x_run tab hk (k := 1) (lv := []) (ks := [1, 2, 3]) (e' := [(1, .slice A9 (t4).length c10), (2, .pointer (some ⟨bx16, 0, none⟩)), (3, .int .i64 t21.1)]) rfl trivial fun a hk => ?_
  refine wpListIn_nil ?_
  refine then_n ?_
  refine x_seq ?_
  refine wpIn_region_lit ?_
  refine x_op hk rfl ?_
  obtain ⟨t34, hc35, H⟩ := bindS H
  refine op_call hk ent_11 (vs := [.pointer (some ⟨bx16, 0, none⟩), .int .i64 1, .int .i64 0, .int .i64 2, .string (⟨#[97, 98]⟩ : ByteArray)]) rfl (parts_Slot_Put_calls bx16 A27 c28 t21.2 1 0 2 (⟨#[97, 98]⟩ : ByteArray) _ o24 2 f26 3 f29 hc30 (by decide)   _ hc35) ?_
  rintro _ w36 ⟨o37, A40, c41, rfl, st38, f39, f42, hc43⟩
  replace f11 := f11.st st38 (by decide)
  replace hs := hs.loc0 st38 (by decide)
  have hk := hk.put 9 (.int .i64 t34.1) rfl
  refine x_run tab hk (k := 1) (lv := []) (ks := [1, 2, 3, 4]) (e' := [(1, .slice A9 (t4).length c10), (2, .pointer (some ⟨bx16, 0, none⟩)), (3, .int .i64 t21.1), (4, .int .i64 t34.1)]) rfl trivial fun a hk => ?_
  refine wpListIn_nil ?_
  refine then_n ?_
  refine x_seq ?_
  refine wpIn_region_lit ?_
  refine x_op hk rfl ?_
  obtain ⟨t47, hc48, H⟩ := bindS H
  refine op_call hk ent_12 (vs := [.pointer (some ⟨bx16, 0, none⟩)]) rfl (parts_Slot_Whole_calls K bx16 A40 c41 t34.2 _ o37 2 f39 _ f42 hc43   _ hc48) ?_
  rintro _ w49 ⟨o50, rfl, st51⟩
  replace f11 := f11.st st51 (by decide)
  replace f39 := f39.st st51 (by decide)
  replace f42 := f42.st st51 (by decide)
  replace hs := hs.loc0 st51 (by decide)
  have hk := hk.put 11 (.tuple #[.string t47.1, .bool t47.2]) rfl
  refine x_run tab hk (k := 5) (lv := []) (ks := [1, 2, 3, 4, 5, 6]) (e' := [(1, .slice A9 (t4).length c10), (2, .pointer (some ⟨bx16, 0, none⟩)), (3, .int .i64 t21.1), (4, .int .i64 t34.1), (5, .string t47.1), (6, .bool t47.2)]) rfl trivial fun a hk => ?_
  refine wpListIn_nil ?_
  refine then_n ?_
  refine x_seq ?_
  refine wpIn_region_lit ?_
  refine x_run tab hk (k := 4) (lv := []) (ks := [1, 2, 3, 4, 5, 6, 17]) (e' := [(1, .slice A9 (t4).length c10), (2, .pointer (some ⟨bx16, 0, none⟩)), (3, .int .i64 t21.1), (4, .int .i64 t34.1), (5, .string t47.1), (6, .bool t47.2), (17, .bool (((t4).length : Int) == (2 : Int)))]) rfl trivial fun a hk => ?_
  cases b52 : (((t4).length : Int) == (2 : Int))
  · rw [b52] at hk H
    replace H := bifF H
    refine x_run tab hk (k := 12) (lv := []) (ks := [2, 5, 6, 27, 29]) (e' := [(2, .pointer (some ⟨bx16, 0, none⟩)), (5, .string t47.1), (6, .bool t47.2), (27, .bool false), (29, undef)]) rfl trivial fun a hk => ?_
    refine x_run tab hk (k := 11) (lv := []) (ks := [38, 40]) (e' := [(38, .bool false), (40, undef)]) rfl trivial fun a hk => ?_
    refine x_run tab hk (k := 2) (lv := []) (ks := [0]) (e' := [(0, .bool false)]) rfl trivial fun a hk => ?_
    refine wpListIn_nil ?_
    refine then_n ?_
    refine wpIn_ret ?_
    obtain rfl := Option.some.inj H
    exact x_retG hk (rs := [.tmp 0]) (vs := [.bool false]) rfl ⟨rfl, trivial⟩ ⟨fun b_ => if b_ < w.heap.size then o b_ else (fun _ => 0) (o50 b_), rfl, hs.close0 o (fun _ => 0)⟩
  · rw [b52] at hk H
    replace H := bifT H
    obtain ⟨q53, H⟩ := ifS H
    obtain ⟨ad54, hAad54⟩ := RdC.addr (Own.rd f11.now) q53
    have hk_C := hk
    have f11_C := f11
    have f39_C := f39
    have f42_C := f42
    subst hAad54
    have hk := hk_C
    clear hk_C
    have f11 := f11_C
    clear f11_C
    have f39 := f39_C
    clear f39_C
    have f42 := f42_C
    clear f42_C
    refine x_run tab hk (k := 6) (lv := [.string (rdD (⟨#[]⟩ : ByteArray) t4 1)]) (ks := [2, 3, 4, 5, 6, 23]) (e' := [(2, .pointer (some ⟨bx16, 0, none⟩)), (3, .int .i64 t21.1), (4, .int .i64 t34.1), (5, .string t47.1), (6, .bool t47.2), (23, .bool (ByteArray.toList (rdD (⟨#[]⟩ : ByteArray) t4 1) == ByteArray.toList (⟨#[99]⟩ : ByteArray)))]) rfl ⟨q53, (load1 tab rfl (RdC.at0 (E := encStr) (d := (⟨#[]⟩ : ByteArray)) (i := (1 : Int)) (Own.rd f11.now) q53 rfl)), trivial⟩ fun a hk => ?_
    cases b55 : (ByteArray.toList (rdD (⟨#[]⟩ : ByteArray) t4 1) == ByteArray.toList (⟨#[99]⟩ : ByteArray))
    · rw [b55] at hk H
      replace H := bifF H
      refine x_run tab hk (k := 10) (lv := []) (ks := [2, 6, 31, 33]) (e' := [(2, .pointer (some ⟨bx16, 0, none⟩)), (6, .bool t47.2), (31, .bool false), (33, undef)]) rfl trivial fun a hk => ?_
      refine x_run tab hk (k := 9) (lv := []) (ks := [0]) (e' := [(0, .bool false)]) rfl trivial fun a hk => ?_
      refine wpListIn_nil ?_
      refine then_n ?_
      refine wpIn_ret ?_
      obtain rfl := Option.some.inj H
      exact x_retG hk (rs := [.tmp 0]) (vs := [.bool false]) rfl ⟨rfl, trivial⟩ ⟨fun b_ => if b_ < w.heap.size then o b_ else (fun _ => 0) (o50 b_), rfl, hs.close0 o (fun _ => 0)⟩
    · rw [b55] at hk H
      replace H := bifT H
      refine x_run tab hk (k := 4) (lv := []) (ks := [2, 4, 5, 6, 27]) (e' := [(2, .pointer (some ⟨bx16, 0, none⟩)), (4, .int .i64 t34.1), (5, .string t47.1), (6, .bool t47.2), (27, .bool (t21.1 == (0 : Int)))]) rfl trivial fun a hk => ?_
      cases b56 : (t21.1 == (0 : Int))
      · rw [b56] at hk H
        replace H := bifF H
        refine x_run tab hk (k := 10) (lv := []) (ks := [2, 37]) (e' := [(2, .pointer (some ⟨bx16, 0, none⟩)), (37, .bool false)]) rfl trivial fun a hk => ?_
        refine x_run tab hk (k := 5) (lv := []) (ks := [0]) (e' := [(0, .bool false)]) rfl trivial fun a hk => ?_
        refine wpListIn_nil ?_
        refine then_n ?_
        refine wpIn_ret ?_
        obtain rfl := Option.some.inj H
        exact x_retG hk (rs := [.tmp 0]) (vs := [.bool false]) rfl ⟨rfl, trivial⟩ ⟨fun b_ => if b_ < w.heap.size then o b_ else (fun _ => 0) (o50 b_), rfl, hs.close0 o (fun _ => 0)⟩
      · rw [b56] at hk H
        replace H := bifT H
        refine x_run tab hk (k := 4) (lv := []) (ks := [2, 5, 6, 31]) (e' := [(2, .pointer (some ⟨bx16, 0, none⟩)), (5, .string t47.1), (6, .bool t47.2), (31, .bool (t34.1 == (0 : Int)))]) rfl trivial fun a hk => ?_
        cases b57 : (t34.1 == (0 : Int))
        · rw [b57] at hk H
          replace H := bifF H
          refine x_run tab hk (k := 10) (lv := []) (ks := [41]) (e' := [(41, .bool false)]) rfl trivial fun a hk => ?_
          refine x_run tab hk (k := 1) (lv := []) (ks := [0]) (e' := [(0, .bool false)]) rfl trivial fun a hk => ?_
          refine wpListIn_nil ?_
          refine then_n ?_
          refine wpIn_ret ?_
          obtain rfl := Option.some.inj H
          exact x_retG hk (rs := [.tmp 0]) (vs := [.bool false]) rfl ⟨rfl, trivial⟩ ⟨fun b_ => if b_ < w.heap.size then o b_ else (fun _ => 0) (o50 b_), rfl, hs.close0 o (fun _ => 0)⟩
        · rw [b57] at hk H
          replace H := bifT H
          refine x_run tab hk (k := 4) (lv := []) (ks := [2, 6, 35]) (e' := [(2, .pointer (some ⟨bx16, 0, none⟩)), (6, .bool t47.2), (35, .bool (ByteArray.toList t47.1 == ByteArray.toList (⟨#[97, 98, 99]⟩ : ByteArray)))]) rfl trivial fun a hk => ?_
          cases b58 : (ByteArray.toList t47.1 == ByteArray.toList (⟨#[97, 98, 99]⟩ : ByteArray))
          · rw [b58] at hk H
            replace H := bifF H
            refine x_run tab hk (k := 7) (lv := []) (ks := [0]) (e' := [(0, .bool false)]) rfl trivial fun a hk => ?_
            refine wpListIn_nil ?_
            refine then_n ?_
            refine wpIn_ret ?_
            obtain rfl := Option.some.inj H
            exact x_retG hk (rs := [.tmp 0]) (vs := [.bool false]) rfl ⟨rfl, trivial⟩ ⟨fun b_ => if b_ < w.heap.size then o b_ else (fun _ => 0) (o50 b_), rfl, hs.close0 o (fun _ => 0)⟩
          · rw [b58] at hk H
            replace H := bifT H
            refine x_run tab hk (k := 3) (lv := []) (ks := [2, 38]) (e' := [(2, .pointer (some ⟨bx16, 0, none⟩)), (38, .bool t47.2)]) rfl trivial fun a hk => ?_
            cases b59 : t47.2
            · rw [b59] at hk H
              replace H := bifF H
              refine x_run tab hk (k := 4) (lv := []) (ks := [0]) (e' := [(0, .bool false)]) rfl trivial fun a hk => ?_
              refine wpListIn_nil ?_
              refine then_n ?_
              refine wpIn_ret ?_
              obtain rfl := Option.some.inj H
              exact x_retG hk (rs := [.tmp 0]) (vs := [.bool false]) rfl ⟨rfl, trivial⟩ ⟨fun b_ => if b_ < w.heap.size then o b_ else (fun _ => 0) (o50 b_), rfl, hs.close0 o (fun _ => 0)⟩
            · rw [b59] at hk H
              replace H := bifT H
              refine x_op hk rfl ?_
              obtain ⟨t63, hc64, H⟩ := bindS H
              refine op_call hk ent_19 (vs := [.pointer (some ⟨bx16, 0, none⟩)]) rfl (parts_Slot_Key_calls bx16 A40 c41 t34.2 _ o50 2 f39 _ f42 hc43   _ hc64) ?_
              rintro _ w65 ⟨o66, rfl, st67⟩
              replace f39 := f39.st st67 (by decide)
              replace f42 := f42.st st67 (by decide)
              replace hs := hs.loc0 st67 (by decide)
              have hk := hk.put 39 (.int .i64 t63) rfl
              refine x_run tab hk (k := 3) (lv := []) (ks := [0]) (e' := [(0, .bool (t63 == (1 : Int)))]) rfl trivial fun a hk => ?_
              refine wpListIn_nil ?_
              refine then_n ?_
              refine wpIn_ret ?_
              obtain rfl := Option.some.inj H
              exact x_retG hk (rs := [.tmp 0]) (vs := [.bool (t63 == (1 : Int))]) rfl ⟨rfl, trivial⟩ ⟨fun b_ => if b_ < w.heap.size then o b_ else (fun _ => 0) (o66 b_), rfl, hs.close0 o (fun _ => 0)⟩

/-! tidewrack/tidewracklaw01.Cut -/
theorem tidewracklaw01_Cut_calls (p0 : ByteArray) (p1 : Int) (w : World) (o : Nat → Nat)   (r : ByteArray) (H : tidewracklaw01_Cut p0 p1 = some r) :
    Calls Try.prog 8 #[.string p0, .int .i64 p1] w (Ret fun v_ w' => ∃ o' : Nat → Nat, v_ = .string r ∧ St [] w o w' o') := by
  refine x_enter (vs := [.string p0, .int .i64 p1]) Try.func8 rfl rfl rfl fun a hk => ?_
  obtain ⟨o0, hs, h0⟩ := St.start w o
  clear h0
  rw [tidewracklaw01_Cut] at H
  refine x_seq ?_
  refine wpIn_region_lit ?_
  refine x_run tab hk (k := 1) (lv := []) (ks := [0, 1]) (e' := [(0, .string p0), (1, .int .i64 p1)]) rfl trivial fun a hk => ?_
  refine wpListIn_nil ?_
  refine then_n ?_
  refine x_seq ?_
  refine x_seq ?_
  refine wpIn_region_lit ?_
  refine x_run tab hk (k := 4) (lv := []) (ks := [0, 1, 8]) (e' := [(0, .string p0), (1, .int .i64 p1), (8, .bool (decide (((p0).size : Int) > p1)))]) rfl trivial fun a hk => ?_
  refine wpListIn_nil ?_
  refine then_n ?_
  cases b1 : (decide (((p0).size : Int) > p1))
  · rw [b1] at hk H
    replace H := bifF H
    refine x_if hk (b := false) rfl ?_
    refine (show Code.wpIn _ _ _ _ _ _ _ from ?_)
    refine wpIn_skip ?_
    refine then_n ?_
    refine x_seq ?_
    refine wpIn_region_lit ?_
    refine x_run tab hk (k := 2) (lv := []) (ks := [4]) (e' := [(4, .string p0)]) rfl trivial fun a hk => ?_
    refine wpListIn_nil ?_
    refine then_n ?_
    refine wpIn_ret ?_
    obtain rfl := Option.some.inj H
    exact x_retG hk (rs := [.tmp 4]) (vs := [.string p0]) rfl ⟨rfl, trivial⟩ ⟨fun b_ => if b_ < w.heap.size then o b_ else (fun _ => 0) (o0 b_), rfl, hs.close0 o (fun _ => 0)⟩
  · rw [b1] at hk H
    replace H := bifT H
    refine x_if hk (b := true) rfl ?_
    refine (show Code.wpIn _ _ _ _ _ _ _ from ?_)
    refine x_seq ?_
    refine wpIn_region_lit ?_
    obtain ⟨q2, H⟩ := ifS H
    obtain ⟨q3, H⟩ := ifS H
    refine x_run tab hk (k := 4) (lv := []) (ks := [4]) (e' := [(4, .string (ByteArray.extract p0 0 (Int.toNat p1)))]) rfl ⟨q2, q3, trivial⟩ fun a hk => ?_
    refine wpListIn_nil ?_
    refine then_n ?_
    refine wpIn_ret ?_
    refine then_r ?_
    obtain rfl := Option.some.inj H
    exact x_retG hk (rs := [.tmp 4]) (vs := [.string (ByteArray.extract p0 0 (Int.toNat p1))]) rfl ⟨rfl, trivial⟩ ⟨fun b_ => if b_ < w.heap.size then o b_ else (fun _ => 0) (o0 b_), rfl, hs.close0 o (fun _ => 0)⟩

/-! tidewrack/tidewrackref04.Split -/
theorem tidewrackref04_Split_calls (K : Nat) (p0 : ByteArray) (p1 : Int) (w : World) (o : Nat → Nat)   (R0 : Nat) (r : List ByteArray) (H : tidewrackref04_Split K p0 p1 = some r) :
    Calls Try.prog 10 #[.string p0, .int .i64 p1] w (Ret fun v_ w' => ∃ o' : Nat → Nat, ∃ A0 : Option Addr, ∃ c0 : Nat, v_ = .slice A0 (r).length c0 ∧ St [] w o w' o' ∧ Ft (Own encStr 9 (.slice A0 (r).length c0) r) w' o' R0 ∧ (r).length ≤ c0) := by
  refine x_enter (vs := [.string p0, .int .i64 p1]) Try.func10 rfl rfl rfl fun a hk => ?_
  obtain ⟨o0, hs, h0⟩ := St.start w o
  clear h0
  rw [tidewrackref04_Split] at H
  refine x_seq ?_
  refine wpIn_region_lit ?_
  refine x_run tab hk (k := 1) (lv := []) (ks := [0, 1]) (e' := [(0, .string p0), (1, .int .i64 p1)]) rfl trivial fun a hk => ?_
  refine wpListIn_nil ?_
  refine then_n ?_
  refine x_seq ?_
  refine wpIn_region_lit ?_
  refine x_run tab hk (k := 4) (lv := []) (ks := [0, 5]) (e' := [(0, .string p0), (5, .int .i64 (mxI 1 (mnI p1 8000)))]) rfl trivial fun a hk => ?_
  refine wpListIn_nil ?_
  refine then_n ?_
  refine x_seq ?_
  refine wpIn_region_lit ?_
  obtain ⟨q1, H⟩ := ifS H
  refine x_run tab hk (k := 9) (lv := []) (ks := [0, 5, 6]) (e' := [(0, .string p0), (5, .int .i64 (mxI 1 (mnI p1 8000))), (6, .int .i64 (mxI 1 (IntKind.wrap .i64 (Int.tdiv (IntKind.wrap .i64 ((IntKind.wrap .i64 (((p0).size : Int) + (mxI 1 (mnI p1 8000)))) - 1)) (mxI 1 (mnI p1 8000))))))]) rfl ⟨q1, trivial⟩ fun a hk => ?_
  refine wpListIn_nil ?_
  refine then_n ?_
  refine x_seq ?_
  refine wpIn_region_lit ?_
  refine x_op hk rfl ?_
  refine op_slice (o := o0) tab hk (vs := []) (cs := []) rfl rfl rfl rfl rfl rfl rfl rfl rfl 1 fun bx5 w2 o3 st4 f6 => ?_
  replace hs := hs.loc0 st4 (by decide)
  have f7 : Ft (Own encStr 9 (.slice (some ⟨bx5, 0, none⟩) (([] : List ByteArray)).length 0) ([] : List ByteArray)) w2 o3 1 := f6.imp fun _ h_ => Own.of_box h_ rfl (by simp)
  have hk := hk.put 20 (.slice (some ⟨bx5, 0, none⟩) (([] : List ByteArray)).length 0) rfl
  refine x_run tab hk (k := 1) (lv := []) (ks := [0, 5, 6, 7]) (e' := [(0, .string p0), (5, .int .i64 (mxI 1 (mnI p1 8000))), (6, .int .i64 (mxI 1 (IntKind.wrap .i64 (Int.tdiv (IntKind.wrap .i64 ((IntKind.wrap .i64 (((p0).size : Int) + (mxI 1 (mnI p1 8000)))) - 1)) (mxI 1 (mnI p1 8000)))))), (7, .slice (some ⟨bx5, 0, none⟩) (([] : List ByteArray)).length 0)]) rfl trivial fun a hk => ?_
  refine wpListIn_nil ?_
  refine then_n ?_
  refine x_mid (fun a_ w_ => ∃ o89 : Nat → Nat, ∃ A90 : Option Addr, ∃ c91 : Nat, ∃ l92 : List ByteArray, Kn 43 a_ [(7, .slice A90 (l92).length c91)] ∧ St [] w (fun _ => 0) w_ o89 ∧ Ft (Own encStr 9 (.slice A90 (l92).length c91) l92) w_ o89 7 ∧ (l92).length ≤ c91 ∧ tidewrackref04_Split_j1 l92 = some r) ?_ ?_
  rotate_left
  · rintro a w95 ⟨o89, A90, c91, l92, hk, hs, f93, hc94, H⟩
    rw [tidewrackref04_Split_j1] at H
    refine x_seq ?_
    refine wpIn_region_lit ?_
    refine x_run tab hk (k := 2) (lv := []) (ks := [4]) (e' := [(4, .slice A90 (l92).length c91)]) rfl trivial fun a hk => ?_
    refine wpListIn_nil ?_
    refine then_n ?_
    refine wpIn_ret ?_
    obtain rfl := Option.some.inj H
    exact x_retG hk (rs := [.tmp 4]) (vs := [.slice A90 (l92).length c91]) rfl ⟨rfl, trivial⟩ ⟨fun b_ => if b_ < w.heap.size then o b_ else (fun _ => R0) (o89 b_), A90, c91, rfl, hs.close0 o (fun _ => R0), hs.close_ft (o := o) (ρ := fun _ => R0) f93 (by decide) rfl, hc94⟩
  refine x_seq ?_
  refine wpIn_region_lit ?_
  refine x_run tab hk (k := 1) (lv := []) (ks := [0, 5, 6, 7, 8]) (e' := [(0, .string p0), (5, .int .i64 (mxI 1 (mnI p1 8000))), (6, .int .i64 (mxI 1 (IntKind.wrap .i64 (Int.tdiv (IntKind.wrap .i64 ((IntKind.wrap .i64 (((p0).size : Int) + (mxI 1 (mnI p1 8000)))) - 1)) (mxI 1 (mnI p1 8000)))))), (7, .slice (some ⟨bx5, 0, none⟩) (([] : List ByteArray)).length 0), (8, .int .i64 0)]) rfl trivial fun a hk => ?_
  refine wpListIn_nil ?_
  refine then_n ?_
  refine wpIn_block ?_
  refine x_loop (fun j_ a_ w_ => ∃ o118 : Nat → Nat, ∃ A119 : Option Addr, ∃ c120 : Nat, ∃ l121 : List ByteArray, ∃ x124 : Int, Kn 43 a_ [(0, .string p0), (5, .int .i64 (mxI 1 (mnI p1 8000))), (6, .int .i64 (mxI 1 (IntKind.wrap .i64 (Int.tdiv (IntKind.wrap .i64 ((IntKind.wrap .i64 (((p0).size : Int) + (mxI 1 (mnI p1 8000)))) - 1)) (mxI 1 (mnI p1 8000)))))), (7, .slice A119 (l121).length c120), (8, .int .i64 x124)] ∧ St [] w (fun _ => 0) w_ o118 ∧ Ft (Own encStr 9 (.slice A119 (l121).length c120) l121) w_ o118 10 ∧ (l121).length ≤ c120 ∧ tidewrackref04_Split_l2 p0 p1 j_ l121 x124 = some r) (k := K) ⟨(fun b_ => (fun l_ => if l_ = 1 then 10 else l_) (o3 b_)), (some ⟨bx5, 0, none⟩), 0, ([] : List ByteArray), 0, (by exact Kn.pick (ks := [0, 5, 6, 7, 8]) hk rfl), (hs.relab0 (fun l_ => if l_ = 1 then 10 else l_) rfl), (f7.relab (fun l_ => if l_ = 1 then 10 else l_) rfl), (Nat.le_refl _), H⟩ (by rintro _ _ ⟨_, _, _, _, _, _, _, _, _, H_⟩; exact absurd (show (none : Option (List ByteArray)) = some r from H_) (by simp)) ?_
  rintro k145 a w144 ⟨o118, A119, c120, l121, x124, hk, hs, f122, hc123, H⟩
  rw [tidewrackref04_Split_l2] at H
  obtain ⟨lp146, hlp147⟩ : ∃ lp_, lp_ = tidewrackref04_Split_l2 p0 p1 k145 := ⟨_, rfl⟩
  rw [← hlp147] at H
  refine x_seq ?_
  refine x_seq ?_
  refine wpIn_region_lit ?_
  refine x_run tab hk (k := 3) (lv := []) (ks := [0, 5, 6, 7, 8, 23]) (e' := [(0, .string p0), (5, .int .i64 (mxI 1 (mnI p1 8000))), (6, .int .i64 (mxI 1 (IntKind.wrap .i64 (Int.tdiv (IntKind.wrap .i64 ((IntKind.wrap .i64 (((p0).size : Int) + (mxI 1 (mnI p1 8000)))) - 1)) (mxI 1 (mnI p1 8000)))))), (7, .slice A119 (l121).length c120), (8, .int .i64 x124), (23, .bool (decide (x124 < (mxI 1 (IntKind.wrap .i64 (Int.tdiv (IntKind.wrap .i64 ((IntKind.wrap .i64 (((p0).size : Int) + (mxI 1 (mnI p1 8000)))) - 1)) (mxI 1 (mnI p1 8000))))))))]) rfl trivial fun a hk => ?_
  refine wpListIn_nil ?_
  refine then_n ?_
  cases b148 : (decide (x124 < (mxI 1 (IntKind.wrap .i64 (Int.tdiv (IntKind.wrap .i64 ((IntKind.wrap .i64 (((p0).size : Int) + (mxI 1 (mnI p1 8000)))) - 1)) (mxI 1 (mnI p1 8000)))))))
  · rw [b148] at hk H
    replace H := bifF H
    refine x_if hk (b := false) rfl ?_
    refine (show Code.wpIn _ _ _ _ _ _ _ from ?_)
    refine wpIn_exit ?_
    refine then_x ?_
    refine then_x ?_
    refine blk_x ?_
    refine then_n ?_
    exact ⟨(fun b_ => (fun l_ => if l_ = 10 then 7 else l_) (o118 b_)), A119, c120, l121, (by exact Kn.pick (ks := [7]) hk rfl), (hs.relab0 (fun l_ => if l_ = 10 then 7 else l_) rfl), (f122.relab (fun l_ => if l_ = 10 then 7 else l_) rfl), hc123, H⟩
  · rw [b148] at hk H
    replace H := bifT H
    refine x_if hk (b := true) rfl ?_
    refine (show Code.wpIn _ _ _ _ _ _ _ from ?_)
    refine wpIn_skip ?_
    refine then_n ?_
    refine x_seq ?_
    refine wpIn_block ?_
    refine wpIn_region_lit ?_
    refine x_run tab hk (k := 10) (lv := []) (ks := [0, 5, 6, 8, 26, 27, 30, 32, 35]) (e' := [(0, .string p0), (5, .int .i64 (mxI 1 (mnI p1 8000))), (6, .int .i64 (mxI 1 (IntKind.wrap .i64 (Int.tdiv (IntKind.wrap .i64 ((IntKind.wrap .i64 (((p0).size : Int) + (mxI 1 (mnI p1 8000)))) - 1)) (mxI 1 (mnI p1 8000)))))), (8, .int .i64 x124), (26, .slice A119 (l121).length c120), (27, .string p0), (30, .int .i64 (IntKind.wrap .i64 (x124 * (mxI 1 (mnI p1 8000))))), (32, .int .i64 ((p0).size : Int)), (35, .int .i64 (IntKind.wrap .i64 (x124 * (mxI 1 (mnI p1 8000)))))]) rfl trivial fun a hk => ?_
    obtain ⟨q149, H⟩ := ifS H
    obtain ⟨q150, H⟩ := ifS H
    obtain ⟨q151, H⟩ := ifS H
    obtain ⟨q152, H⟩ := ifS H
    refine x_run tab hk (k := 4) (lv := []) (ks := [0, 5, 6, 8, 26, 39]) (e' := [(0, .string p0), (5, .int .i64 (mxI 1 (mnI p1 8000))), (6, .int .i64 (mxI 1 (IntKind.wrap .i64 (Int.tdiv (IntKind.wrap .i64 ((IntKind.wrap .i64 (((p0).size : Int) + (mxI 1 (mnI p1 8000)))) - 1)) (mxI 1 (mnI p1 8000)))))), (8, .int .i64 x124), (26, .slice A119 (l121).length c120), (39, .string (ByteArray.extract p0 (Int.toNat (IntKind.wrap .i64 (x124 * (mxI 1 (mnI p1 8000))))) (Int.toNat (mnI ((p0).size : Int) (IntKind.wrap .i64 ((IntKind.wrap .i64 (x124 * (mxI 1 (mnI p1 8000)))) + (mxI 1 (mnI p1 8000))))))))]) rfl ⟨q149, q150, q151, q152, trivial⟩ fun a hk => ?_
    refine x_op hk rfl ?_
    refine op_slice (o := o118) tab hk (vs := [.string (ByteArray.extract p0 (Int.toNat (IntKind.wrap .i64 (x124 * (mxI 1 (mnI p1 8000))))) (Int.toNat (mnI ((p0).size : Int) (IntKind.wrap .i64 ((IntKind.wrap .i64 (x124 * (mxI 1 (mnI p1 8000)))) + (mxI 1 (mnI p1 8000)))))))]) (cs := [.string (ByteArray.extract p0 (Int.toNat (IntKind.wrap .i64 (x124 * (mxI 1 (mnI p1 8000))))) (Int.toNat (mnI ((p0).size : Int) (IntKind.wrap .i64 ((IntKind.wrap .i64 (x124 * (mxI 1 (mnI p1 8000)))) + (mxI 1 (mnI p1 8000)))))))]) rfl rfl rfl rfl rfl rfl rfl rfl rfl 12 fun bx156 w153 o154 st155 f157 => ?_
    replace f122 := f122.st st155 (by decide)
    replace hs := hs.loc0 st155 (by decide)
    have f158 : Ft (Own encStr 9 (.slice (some ⟨bx156, 0, none⟩) (([(ByteArray.extract p0 (Int.toNat (IntKind.wrap .i64 (x124 * (mxI 1 (mnI p1 8000))))) (Int.toNat (mnI ((p0).size : Int) (IntKind.wrap .i64 ((IntKind.wrap .i64 (x124 * (mxI 1 (mnI p1 8000)))) + (mxI 1 (mnI p1 8000)))))))] : List ByteArray)).length 1) ([(ByteArray.extract p0 (Int.toNat (IntKind.wrap .i64 (x124 * (mxI 1 (mnI p1 8000))))) (Int.toNat (mnI ((p0).size : Int) (IntKind.wrap .i64 ((IntKind.wrap .i64 (x124 * (mxI 1 (mnI p1 8000)))) + (mxI 1 (mnI p1 8000)))))))] : List ByteArray)) w153 o154 12 := f157.imp fun _ h_ => Own.of_box h_ rfl (by simp)
    have hk := hk.put 40 (.slice (some ⟨bx156, 0, none⟩) (([(ByteArray.extract p0 (Int.toNat (IntKind.wrap .i64 (x124 * (mxI 1 (mnI p1 8000))))) (Int.toNat (mnI ((p0).size : Int) (IntKind.wrap .i64 ((IntKind.wrap .i64 (x124 * (mxI 1 (mnI p1 8000)))) + (mxI 1 (mnI p1 8000)))))))] : List ByteArray)).length 1) rfl
    refine x_op hk rfl ?_
    obtain ⟨q162, H⟩ := ifS H
    refine op_append (o := o154) (E := encStr) (xs := l121) (ys := ([(ByteArray.extract p0 (Int.toNat (IntKind.wrap .i64 (x124 * (mxI 1 (mnI p1 8000))))) (Int.toNat (mnI ((p0).size : Int) (IntKind.wrap .i64 ((IntKind.wrap .i64 (x124 * (mxI 1 (mnI p1 8000)))) + (mxI 1 (mnI p1 8000)))))))] : List ByteArray)) tab hk rfl rfl rfl rfl rfl rfl rfl f122 (Own.rd f158.now) q162 fun A163 c164 w159 o160 st161 f165 hc166 => ?_
    replace f158 := f158.st st161 (by decide)
    replace hs := hs.loc0 st161 (by decide)
    have hk := hk.put 41 (.slice A163 ((l121 ++ ([(ByteArray.extract p0 (Int.toNat (IntKind.wrap .i64 (x124 * (mxI 1 (mnI p1 8000))))) (Int.toNat (mnI ((p0).size : Int) (IntKind.wrap .i64 ((IntKind.wrap .i64 (x124 * (mxI 1 (mnI p1 8000)))) + (mxI 1 (mnI p1 8000)))))))] : List ByteArray))).length c164) rfl
    refine x_run tab hk (k := 1) (lv := []) (ks := [0, 5, 6, 7, 8]) (e' := [(0, .string p0), (5, .int .i64 (mxI 1 (mnI p1 8000))), (6, .int .i64 (mxI 1 (IntKind.wrap .i64 (Int.tdiv (IntKind.wrap .i64 ((IntKind.wrap .i64 (((p0).size : Int) + (mxI 1 (mnI p1 8000)))) - 1)) (mxI 1 (mnI p1 8000)))))), (7, .slice A163 ((l121 ++ ([(ByteArray.extract p0 (Int.toNat (IntKind.wrap .i64 (x124 * (mxI 1 (mnI p1 8000))))) (Int.toNat (mnI ((p0).size : Int) (IntKind.wrap .i64 ((IntKind.wrap .i64 (x124 * (mxI 1 (mnI p1 8000)))) + (mxI 1 (mnI p1 8000)))))))] : List ByteArray))).length c164), (8, .int .i64 x124)]) rfl trivial fun a hk => ?_
    refine wpListIn_nil ?_
    refine blk_n ?_
    refine then_n ?_
    refine wpIn_region_lit ?_
    refine x_run tab hk (k := 3) (lv := []) (ks := [0, 5, 6, 7, 8]) (e' := [(0, .string p0), (5, .int .i64 (mxI 1 (mnI p1 8000))), (6, .int .i64 (mxI 1 (IntKind.wrap .i64 (Int.tdiv (IntKind.wrap .i64 ((IntKind.wrap .i64 (((p0).size : Int) + (mxI 1 (mnI p1 8000)))) - 1)) (mxI 1 (mnI p1 8000)))))), (7, .slice A163 ((l121 ++ ([(ByteArray.extract p0 (Int.toNat (IntKind.wrap .i64 (x124 * (mxI 1 (mnI p1 8000))))) (Int.toNat (mnI ((p0).size : Int) (IntKind.wrap .i64 ((IntKind.wrap .i64 (x124 * (mxI 1 (mnI p1 8000)))) + (mxI 1 (mnI p1 8000)))))))] : List ByteArray))).length c164), (8, .int .i64 (IntKind.wrap .i64 (x124 + 1)))]) rfl trivial fun a hk => ?_
    refine wpListIn_nil ?_
    refine then_n ?_
    exact ⟨k145, Nat.le_refl _, o160, A163, c164, (l121 ++ ([(ByteArray.extract p0 (Int.toNat (IntKind.wrap .i64 (x124 * (mxI 1 (mnI p1 8000))))) (Int.toNat (mnI ((p0).size : Int) (IntKind.wrap .i64 ((IntKind.wrap .i64 (x124 * (mxI 1 (mnI p1 8000)))) + (mxI 1 (mnI p1 8000)))))))] : List ByteArray)), (IntKind.wrap .i64 (x124 + 1)), (by exact Kn.pick (ks := [0, 5, 6, 7, 8]) hk rfl), hs, f165, hc166, (hlp147 ▸ H)⟩

/-! tidewrack/tidewracklaw04.PartsSplit -/
theorem tidewracklaw04_PartsSplit_calls (K : Nat) (p0 : ByteArray) (p1 : Int) (w : World) (o : Nat → Nat)   (r : Bool) (H : tidewracklaw04_PartsSplit K p0 p1 = some r) :
    Calls Try.prog 3 #[.string p0, .int .i64 p1] w (Ret fun v_ w' => ∃ o' : Nat → Nat, v_ = .bool r ∧ St [] w o w' o') := by
  refine x_enter (vs := [.string p0, .int .i64 p1]) Try.func3 rfl rfl rfl fun a hk => ?_
  obtain ⟨o0, hs, h0⟩ := St.start w o
  clear h0
  rw [tidewracklaw04_PartsSplit] at H
  refine x_seq ?_
  refine wpIn_region_lit ?_
  refine x_run tab hk (k := 1) (lv := []) (ks := [0, 1]) (e' := [(0, .string p0), (1, .int .i64 p1)]) rfl trivial fun a hk => ?_
  refine wpListIn_nil ?_
  refine then_n ?_
  refine x_seq ?_
  refine x_seq ?_
  refine wpIn_region_lit ?_
  refine x_op hk rfl ?_
  obtain ⟨t4, hc5, H⟩ := bindS H
  refine op_call hk ent_7 (vs := []) rfl (tidewracklaw04_awake_calls K  _ o0    _ hc5) ?_
  rintro _ w6 ⟨o7, rfl, st8⟩
  replace hs := hs.loc0 st8 (by decide)
  have hk := hk.put 10 (.bool t4) rfl
  refine x_run tab hk (k := 1) (lv := []) (ks := [0, 1, 11]) (e' := [(0, .string p0), (1, .int .i64 p1), (11, .bool (!t4))]) rfl trivial fun a hk => ?_
  refine wpListIn_nil ?_
  refine then_n ?_
  cases b9 : (!t4)
  · rw [b9] at hk H
    replace H := bifF H
    refine x_if hk (b := false) rfl ?_
    refine (show Code.wpIn _ _ _ _ _ _ _ from ?_)
    refine wpIn_skip ?_
    refine then_n ?_
    refine x_seq ?_
    refine wpIn_region_lit ?_
    refine x_run tab hk (k := 1) (lv := []) (ks := [1, 12]) (e' := [(1, .int .i64 p1), (12, .string p0)]) rfl trivial fun a hk => ?_
    refine x_op hk rfl ?_
    obtain ⟨t13, hc14, H⟩ := bindS H
    refine op_call hk ent_8 (vs := [.string p0, .int .i64 300]) rfl (tidewracklaw01_Cut_calls p0 300 _ o7    _ hc14) ?_
    rintro _ w15 ⟨o16, rfl, st17⟩
    replace hs := hs.loc0 st17 (by decide)
    have hk := hk.put 13 (.string t13) rfl
    refine x_run tab hk (k := 1) (lv := []) (ks := [0, 1]) (e' := [(0, .string t13), (1, .int .i64 p1)]) rfl trivial fun a hk => ?_
    refine wpListIn_nil ?_
    refine then_n ?_
    refine x_seq ?_
    refine wpIn_region_lit ?_
    refine x_run tab hk (k := 2) (lv := []) (ks := [0, 1, 14, 15]) (e' := [(0, .string t13), (1, .int .i64 p1), (14, .string t13), (15, .int .i64 p1)]) rfl trivial fun a hk => ?_
    refine x_op hk rfl ?_
    obtain ⟨t21, hc22, H⟩ := bindS H
    refine op_call hk ent_9 (vs := [.string t13, .int .i64 p1]) rfl (parts_Split_calls K t13 p1 _ o16  1  _ hc22) ?_
    rintro _ w23 ⟨o24, A26, c27, rfl, st25, f28, hc29⟩
    replace hs := hs.loc0 st25 (by decide)
    have hk := hk.put 16 (.slice A26 (t21).length c27) rfl
    refine x_run tab hk (k := 2) (lv := []) (ks := [0, 16, 17, 18]) (e' := [(0, .string t13), (16, .slice A26 (t21).length c27), (17, .string t13), (18, .int .i64 p1)]) rfl trivial fun a hk => ?_
    refine x_op hk rfl ?_
    obtain ⟨t33, hc34, H⟩ := bindS H
    refine op_call hk ent_10 (vs := [.string t13, .int .i64 p1]) rfl (tidewrackref04_Split_calls K t13 p1 _ o24  2  _ hc34) ?_
    rintro _ w35 ⟨o36, A38, c39, rfl, st37, f40, hc41⟩
    replace f28 := f28.st st37 (by decide)
    replace hs := hs.loc0 st37 (by decide)
    have hk := hk.put 19 (.slice A38 (t33).length c39) rfl
    refine x_run tab hk (k := 2) (lv := []) (ks := [0, 5, 6]) (e' := [(0, .string t13), (5, .slice A26 (t21).length c27), (6, .slice A38 (t33).length c39)]) rfl trivial fun a hk => ?_
    refine wpListIn_nil ?_
    refine then_n ?_
    refine x_seq ?_
    refine x_seq ?_
    refine wpIn_region_lit ?_
    refine x_run tab hk (k := 5) (lv := []) (ks := [0, 5, 6, 24]) (e' := [(0, .string t13), (5, .slice A26 (t21).length c27), (6, .slice A38 (t33).length c39), (24, .bool (((t21).length : Int) != ((t33).length : Int)))]) rfl trivial fun a hk => ?_
    refine wpListIn_nil ?_
    refine then_n ?_
    cases b42 : (((t21).length : Int) != ((t33).length : Int))
    · rw [b42] at hk H
      replace H := bifF H
      refine x_if hk (b := false) rfl ?_
      refine (show Code.wpIn _ _ _ _ _ _ _ from ?_)
      refine wpIn_skip ?_
      refine then_n ?_
      refine x_seq ?_
      refine wpIn_region_lit ?_
      refine x_run tab hk (k := 1) (lv := []) (ks := [0, 5, 6, 7]) (e' := [(0, .string t13), (5, .slice A26 (t21).length c27), (6, .slice A38 (t33).length c39), (7, .string (⟨#[]⟩ : ByteArray))]) rfl trivial fun a hk => ?_
      refine wpListIn_nil ?_
      refine then_n ?_
      refine x_mid (fun a_ w_ => ∃ o80 : Nat → Nat, ∃ x81 : ByteArray, Kn 45 a_ [(0, .string t13), (7, .string x81)] ∧ St [] w (fun _ => 0) w_ o80 ∧ tidewracklaw04_PartsSplit_j1 t13 x81 = some r) ?_ ?_
      rotate_left
      · rintro a w82 ⟨o80, x81, hk, hs, H⟩
        rw [tidewracklaw04_PartsSplit_j1] at H
        refine x_seq ?_
        refine wpIn_region_lit ?_
        refine x_run tab hk (k := 4) (lv := []) (ks := [4]) (e' := [(4, .bool (ByteArray.toList x81 == ByteArray.toList t13))]) rfl trivial fun a hk => ?_
        refine wpListIn_nil ?_
        refine then_n ?_
        refine wpIn_ret ?_
        obtain rfl := Option.some.inj H
        exact x_retG hk (rs := [.tmp 4]) (vs := [.bool (ByteArray.toList x81 == ByteArray.toList t13)]) rfl ⟨rfl, trivial⟩ ⟨fun b_ => if b_ < w.heap.size then o b_ else (fun _ => 0) (o80 b_), rfl, hs.close0 o (fun _ => 0)⟩
      refine x_seq ?_
      refine wpIn_region_lit ?_
      refine x_run tab hk (k := 3) (lv := []) (ks := [0, 6, 7, 25, 26, 27]) (e' := [(0, .string t13), (6, .slice A38 (t33).length c39), (7, .string (⟨#[]⟩ : ByteArray)), (25, .slice A26 (t21).length c27), (26, .int .i64 ((t21).length : Int)), (27, .int .i64 0)]) rfl trivial fun a hk => ?_
      refine wpListIn_nil ?_
      refine then_n ?_
      refine wpIn_block ?_
      refine x_loop (fun j_ a_ w_ => ∃ o93 : Nat → Nat, ∃ x94 : ByteArray, ∃ x95 : Int, Kn 45 a_ [(0, .string t13), (6, .slice A38 (t33).length c39), (7, .string x94), (25, .slice A26 (t21).length c27), (26, .int .i64 ((t21).length : Int)), (27, .int .i64 x95)] ∧ St [] w (fun _ => 0) w_ o93 ∧ Ft (Own encStr 9 (.slice A26 (t21).length c27) t21) w_ o93 10 ∧ Ft (Own encStr 9 (.slice A38 (t33).length c39) t33) w_ o93 9 ∧ tidewracklaw04_PartsSplit_l2 t13 t21 t33 j_ x94 x95 = some r) (k := K) ⟨(fun b_ => (fun l_ => if l_ = 1 then 10 else if l_ = 2 then 9 else l_) (o36 b_)), (⟨#[]⟩ : ByteArray), 0, (by exact Kn.pick (ks := [0, 6, 7, 25, 26, 27]) hk rfl), (hs.relab0 (fun l_ => if l_ = 1 then 10 else if l_ = 2 then 9 else l_) rfl), (f28.relab (fun l_ => if l_ = 1 then 10 else if l_ = 2 then 9 else l_) rfl), (f40.relab (fun l_ => if l_ = 1 then 10 else if l_ = 2 then 9 else l_) rfl), H⟩ (by rintro _ _ ⟨_, _, _, _, _, _, _, H_⟩; exact absurd (show (none : Option Bool) = some r from H_) (by simp)) ?_
      rintro k104 a w103 ⟨o93, x94, x95, hk, hs, f28, f40, H⟩
      rw [tidewracklaw04_PartsSplit_l2] at H
      obtain ⟨lp105, hlp106⟩ : ∃ lp_, lp_ = tidewracklaw04_PartsSplit_l2 t13 t21 t33 k104 := ⟨_, rfl⟩
      rw [← hlp106] at H
      refine x_seq ?_
      refine wpIn_region_lit ?_
      refine x_run tab hk (k := 1) (lv := []) (ks := [0, 6, 7, 25, 26, 27, 28]) (e' := [(0, .string t13), (6, .slice A38 (t33).length c39), (7, .string x94), (25, .slice A26 (t21).length c27), (26, .int .i64 ((t21).length : Int)), (27, .int .i64 x95), (28, .bool (decide (x95 < ((t21).length : Int))))]) rfl trivial fun a hk => ?_
      refine wpListIn_nil ?_
      refine then_n ?_
      refine x_seq ?_
      cases b107 : (decide (x95 < ((t21).length : Int)))
      · rw [b107] at hk H
        replace H := bifF H
        refine x_if hk (b := false) rfl ?_
        refine (show Code.wpIn _ _ _ _ _ _ _ from ?_)
        refine wpIn_exit ?_
        refine then_x ?_
        refine then_x ?_
        refine blk_x ?_
        refine then_n ?_
        exact ⟨o93, x94, (by exact Kn.pick (ks := [0, 7]) hk rfl), hs, H⟩
      · rw [b107] at hk H
        replace H := bifT H
        refine x_if hk (b := true) rfl ?_
        refine (show Code.wpIn _ _ _ _ _ _ _ from ?_)
        refine wpIn_skip ?_
        refine then_n ?_
        refine x_seq ?_
        refine wpIn_block ?_
        refine x_seq ?_
        refine wpIn_region_lit ?_
        obtain ⟨q108, H⟩ := ifS H
        obtain ⟨ad109, hAad109⟩ := RdC.addr (Own.rd f28.now) q108
        have hk_C := hk
        have f28_C := f28
        have f40_C := f40
        subst hAad109
        have hk := hk_C
        clear hk_C
        have f28 := f28_C
        clear f28_C
        have f40 := f40_C
        clear f40_C
        refine x_run tab hk (k := 5) (lv := [.string (rdD (⟨#[]⟩ : ByteArray) t21 x95)]) (ks := [0, 6, 7, 8, 9, 25, 26, 27]) (e' := [(0, .string t13), (6, .slice A38 (t33).length c39), (7, .string x94), (8, .int .i64 x95), (9, .string (rdD (⟨#[]⟩ : ByteArray) t21 x95)), (25, .slice (some ad109) (t21).length c27), (26, .int .i64 ((t21).length : Int)), (27, .int .i64 x95)]) rfl ⟨q108, (load1 tab rfl (RdC.at0 (E := encStr) (d := (⟨#[]⟩ : ByteArray)) (i := x95) (Own.rd f28.now) q108 rfl)), trivial⟩ fun a hk => ?_
        refine wpListIn_nil ?_
        refine then_n ?_
        refine x_seq ?_
        refine x_seq ?_
        refine wpIn_region_lit ?_
        obtain ⟨q110, H⟩ := ifS H
        obtain ⟨ad111, hAad111⟩ := RdC.addr (Own.rd f40.now) q110
        have hk_C := hk
        have f28_C := f28
        have f40_C := f40
        subst hAad111
        have hk := hk_C
        clear hk_C
        have f28 := f28_C
        clear f28_C
        have f40 := f40_C
        clear f40_C
        refine x_run tab hk (k := 6) (lv := [.string (rdD (⟨#[]⟩ : ByteArray) t33 x95)]) (ks := [0, 6, 7, 9, 25, 26, 27, 37]) (e' := [(0, .string t13), (6, .slice (some ad111) (t33).length c39), (7, .string x94), (9, .string (rdD (⟨#[]⟩ : ByteArray) t21 x95)), (25, .slice (some ad109) (t21).length c27), (26, .int .i64 ((t21).length : Int)), (27, .int .i64 x95), (37, .bool (!(ByteArray.toList (rdD (⟨#[]⟩ : ByteArray) t21 x95) == ByteArray.toList (rdD (⟨#[]⟩ : ByteArray) t33 x95))))]) rfl ⟨q110, (load1 tab rfl (RdC.at0 (E := encStr) (d := (⟨#[]⟩ : ByteArray)) (i := x95) (Own.rd f40.now) q110 rfl)), trivial⟩ fun a hk => ?_
        refine wpListIn_nil ?_
        refine then_n ?_
        cases b112 : (!(ByteArray.toList (rdD (⟨#[]⟩ : ByteArray) t21 x95) == ByteArray.toList (rdD (⟨#[]⟩ : ByteArray) t33 x95)))
        · rw [b112] at hk H
          replace H := bifF H
          refine x_if hk (b := false) rfl ?_
          refine (show Code.wpIn _ _ _ _ _ _ _ from ?_)
          refine wpIn_skip ?_
          refine then_n ?_
          refine wpIn_region_lit ?_
          obtain ⟨q113, H⟩ := ifS H
          refine x_run tab hk (k := 4) (lv := []) (ks := [0, 6, 7, 25, 26, 27]) (e' := [(0, .string t13), (6, .slice (some ad111) (t33).length c39), (7, .string (x94 ++ (rdD (⟨#[]⟩ : ByteArray) t21 x95))), (25, .slice (some ad109) (t21).length c27), (26, .int .i64 ((t21).length : Int)), (27, .int .i64 x95)]) rfl ⟨q113, trivial⟩ fun a hk => ?_
          refine wpListIn_nil ?_
          refine blk_n ?_
          refine then_n ?_
          refine wpIn_region_lit ?_
          refine x_run tab hk (k := 2) (lv := []) (ks := [0, 6, 7, 25, 26, 27]) (e' := [(0, .string t13), (6, .slice (some ad111) (t33).length c39), (7, .string (x94 ++ (rdD (⟨#[]⟩ : ByteArray) t21 x95))), (25, .slice (some ad109) (t21).length c27), (26, .int .i64 ((t21).length : Int)), (27, .int .i64 (IntKind.wrap .i64 (x95 + 1)))]) rfl trivial fun a hk => ?_
          refine wpListIn_nil ?_
          refine then_n ?_
          exact ⟨k104, Nat.le_refl _, o93, (x94 ++ (rdD (⟨#[]⟩ : ByteArray) t21 x95)), (IntKind.wrap .i64 (x95 + 1)), (by exact Kn.pick (ks := [0, 6, 7, 25, 26, 27]) hk rfl), hs, f28, f40, (hlp106 ▸ H)⟩
        · rw [b112] at hk H
          replace H := bifT H
          refine x_if hk (b := true) rfl ?_
          refine (show Code.wpIn _ _ _ _ _ _ _ from ?_)
          refine x_seq ?_
          refine wpIn_region_lit ?_
          refine x_run tab hk (k := 1) (lv := []) (ks := [4]) (e' := [(4, .bool false)]) rfl trivial fun a hk => ?_
          refine wpListIn_nil ?_
          refine then_n ?_
          refine wpIn_ret ?_
          refine then_r ?_
          refine blk_r ?_
          refine then_r ?_
          refine then_r ?_
          refine blk_r ?_
          refine then_r ?_
          obtain rfl := Option.some.inj H
          exact x_retG hk (rs := [.tmp 4]) (vs := [.bool false]) rfl ⟨rfl, trivial⟩ ⟨fun b_ => if b_ < w.heap.size then o b_ else (fun _ => 0) (o93 b_), rfl, hs.close0 o (fun _ => 0)⟩
    · rw [b42] at hk H
      replace H := bifT H
      refine x_if hk (b := true) rfl ?_
      refine (show Code.wpIn _ _ _ _ _ _ _ from ?_)
      refine x_seq ?_
      refine wpIn_region_lit ?_
      refine x_run tab hk (k := 1) (lv := []) (ks := [4]) (e' := [(4, .bool false)]) rfl trivial fun a hk => ?_
      refine wpListIn_nil ?_
      refine then_n ?_
      refine wpIn_ret ?_
      refine then_r ?_
      obtain rfl := Option.some.inj H
      exact x_retG hk (rs := [.tmp 4]) (vs := [.bool false]) rfl ⟨rfl, trivial⟩ ⟨fun b_ => if b_ < w.heap.size then o b_ else (fun _ => 0) (o36 b_), rfl, hs.close0 o (fun _ => 0)⟩
  · rw [b9] at hk H
    replace H := bifT H
    refine x_if hk (b := true) rfl ?_
    refine (show Code.wpIn _ _ _ _ _ _ _ from ?_)
    refine x_seq ?_
    refine wpIn_region_lit ?_
    refine x_run tab hk (k := 1) (lv := []) (ks := [4]) (e' := [(4, .bool false)]) rfl trivial fun a hk => ?_
    refine wpListIn_nil ?_
    refine then_n ?_
    refine wpIn_ret ?_
    refine then_r ?_
    obtain rfl := Option.some.inj H
    exact x_retG hk (rs := [.tmp 4]) (vs := [.bool false]) rfl ⟨rfl, trivial⟩ ⟨fun b_ => if b_ < w.heap.size then o b_ else (fun _ => 0) (o7 b_), rfl, hs.close0 o (fun _ => 0)⟩

/-! tidewrack/tidewracklaw04.PartsSizes -/
theorem tidewracklaw04_PartsSizes_calls (K : Nat) (p0 : ByteArray) (p1 : Int) (w : World) (o : Nat → Nat)   (r : Bool) (H : tidewracklaw04_PartsSizes K p0 p1 = some r) :
    Calls Try.prog 4 #[.string p0, .int .i64 p1] w (Ret fun v_ w' => ∃ o' : Nat → Nat, v_ = .bool r ∧ St [] w o w' o') := by
  refine x_enter (vs := [.string p0, .int .i64 p1]) Try.func4 rfl rfl rfl fun a hk => ?_
  obtain ⟨o0, hs, h0⟩ := St.start w o
  clear h0
  rw [tidewracklaw04_PartsSizes] at H
  refine x_seq ?_
  refine wpIn_region_lit ?_
  refine x_run tab hk (k := 1) (lv := []) (ks := [0, 1]) (e' := [(0, .string p0), (1, .int .i64 p1)]) rfl trivial fun a hk => ?_
  refine wpListIn_nil ?_
  refine then_n ?_
  refine x_seq ?_
  refine x_seq ?_
  refine wpIn_region_lit ?_
  refine x_op hk rfl ?_
  obtain ⟨t4, hc5, H⟩ := bindS H
  refine op_call hk ent_7 (vs := []) rfl (tidewracklaw04_awake_calls K  _ o0    _ hc5) ?_
  rintro _ w6 ⟨o7, rfl, st8⟩
  replace hs := hs.loc0 st8 (by decide)
  have hk := hk.put 9 (.bool t4) rfl
  refine x_run tab hk (k := 1) (lv := []) (ks := [0, 1, 10]) (e' := [(0, .string p0), (1, .int .i64 p1), (10, .bool (!t4))]) rfl trivial fun a hk => ?_
  refine wpListIn_nil ?_
  refine then_n ?_
  cases b9 : (!t4)
  · rw [b9] at hk H
    replace H := bifF H
    refine x_if hk (b := false) rfl ?_
    refine (show Code.wpIn _ _ _ _ _ _ _ from ?_)
    refine wpIn_skip ?_
    refine then_n ?_
    refine x_seq ?_
    refine wpIn_region_lit ?_
    refine x_run tab hk (k := 1) (lv := []) (ks := [1, 11]) (e' := [(1, .int .i64 p1), (11, .string p0)]) rfl trivial fun a hk => ?_
    refine x_op hk rfl ?_
    obtain ⟨t13, hc14, H⟩ := bindS H
    refine op_call hk ent_8 (vs := [.string p0, .int .i64 300]) rfl (tidewracklaw01_Cut_calls p0 300 _ o7    _ hc14) ?_
    rintro _ w15 ⟨o16, rfl, st17⟩
    replace hs := hs.loc0 st17 (by decide)
    have hk := hk.put 12 (.string t13) rfl
    refine x_run tab hk (k := 1) (lv := []) (ks := [0, 1]) (e' := [(0, .string t13), (1, .int .i64 p1)]) rfl trivial fun a hk => ?_
    refine wpListIn_nil ?_
    refine then_n ?_
    refine x_seq ?_
    refine wpIn_region_lit ?_
    refine x_run tab hk (k := 4) (lv := []) (ks := [0, 1, 5]) (e' := [(0, .string t13), (1, .int .i64 p1), (5, .int .i64 (mxI 1 (mnI p1 8000)))]) rfl trivial fun a hk => ?_
    refine wpListIn_nil ?_
    refine then_n ?_
    refine x_seq ?_
    refine wpIn_region_lit ?_
    refine x_run tab hk (k := 2) (lv := []) (ks := [0, 5, 16, 17]) (e' := [(0, .string t13), (5, .int .i64 (mxI 1 (mnI p1 8000))), (16, .string t13), (17, .int .i64 p1)]) rfl trivial fun a hk => ?_
    refine x_op hk rfl ?_
    obtain ⟨t21, hc22, H⟩ := bindS H
    refine op_call hk ent_9 (vs := [.string t13, .int .i64 p1]) rfl (parts_Split_calls K t13 p1 _ o16  1  _ hc22) ?_
    rintro _ w23 ⟨o24, A26, c27, rfl, st25, f28, hc29⟩
    replace hs := hs.loc0 st25 (by decide)
    have hk := hk.put 18 (.slice A26 (t21).length c27) rfl
    refine x_run tab hk (k := 1) (lv := []) (ks := [0, 5, 6]) (e' := [(0, .string t13), (5, .int .i64 (mxI 1 (mnI p1 8000))), (6, .slice A26 (t21).length c27)]) rfl trivial fun a hk => ?_
    refine wpListIn_nil ?_
    refine then_n ?_
    refine x_mid (fun a_ w_ => ∃ o76 : Nat → Nat, Kn 63 a_ [(0, .string t13), (5, .int .i64 (mxI 1 (mnI p1 8000))), (6, .slice A26 (t21).length c27)] ∧ St [] w (fun _ => 0) w_ o76 ∧ Ft (Own encStr 9 (.slice A26 (t21).length c27) t21) w_ o76 5 ∧ tidewracklaw04_PartsSizes_j1 p1 t13 t21 = some r) ?_ ?_
    rotate_left
    · rintro a w77 ⟨o76, hk, hs, f28, H⟩
      rw [tidewracklaw04_PartsSizes_j1] at H
      refine x_seq ?_
      refine wpIn_region_lit ?_
      obtain ⟨q78, H⟩ := ifS H
      refine x_run tab hk (k := 10) (lv := []) (ks := [53, 61]) (e' := [(53, .int .i64 ((t21).length : Int)), (61, .int .i64 (mxI 1 (IntKind.wrap .i64 (Int.tdiv (IntKind.wrap .i64 ((IntKind.wrap .i64 (((t13).size : Int) + (mxI 1 (mnI p1 8000)))) - 1)) (mxI 1 (mnI p1 8000))))))]) rfl ⟨q78, trivial⟩ fun a hk => ?_
      refine x_run tab hk (k := 2) (lv := []) (ks := [4]) (e' := [(4, .bool (((t21).length : Int) == (mxI 1 (IntKind.wrap .i64 (Int.tdiv (IntKind.wrap .i64 ((IntKind.wrap .i64 (((t13).size : Int) + (mxI 1 (mnI p1 8000)))) - 1)) (mxI 1 (mnI p1 8000)))))))]) rfl trivial fun a hk => ?_
      refine wpListIn_nil ?_
      refine then_n ?_
      refine wpIn_ret ?_
      obtain rfl := Option.some.inj H
      exact x_retG hk (rs := [.tmp 4]) (vs := [.bool (((t21).length : Int) == (mxI 1 (IntKind.wrap .i64 (Int.tdiv (IntKind.wrap .i64 ((IntKind.wrap .i64 (((t13).size : Int) + (mxI 1 (mnI p1 8000)))) - 1)) (mxI 1 (mnI p1 8000))))))]) rfl ⟨rfl, trivial⟩ ⟨fun b_ => if b_ < w.heap.size then o b_ else (fun _ => 0) (o76 b_), rfl, hs.close0 o (fun _ => 0)⟩
    refine x_seq ?_
    refine wpIn_region_lit ?_
    refine x_run tab hk (k := 3) (lv := []) (ks := [0, 5, 6, 19, 20, 21]) (e' := [(0, .string t13), (5, .int .i64 (mxI 1 (mnI p1 8000))), (6, .slice A26 (t21).length c27), (19, .slice A26 (t21).length c27), (20, .int .i64 ((t21).length : Int)), (21, .int .i64 0)]) rfl trivial fun a hk => ?_
    refine wpListIn_nil ?_
    refine then_n ?_
    refine wpIn_block ?_
    refine x_loop (fun j_ a_ w_ => ∃ o94 : Nat → Nat, ∃ x95 : Int, Kn 63 a_ [(0, .string t13), (5, .int .i64 (mxI 1 (mnI p1 8000))), (6, .slice A26 (t21).length c27), (19, .slice A26 (t21).length c27), (20, .int .i64 ((t21).length : Int)), (21, .int .i64 x95)] ∧ St [] w (fun _ => 0) w_ o94 ∧ Ft (Own encStr 9 (.slice A26 (t21).length c27) t21) w_ o94 8 ∧ tidewracklaw04_PartsSizes_l2 p1 t13 t21 j_ x95 = some r) (k := K) ⟨(fun b_ => (fun l_ => if l_ = 1 then 8 else l_) (o24 b_)), 0, (by exact Kn.pick (ks := [0, 5, 6, 19, 20, 21]) hk rfl), (hs.relab0 (fun l_ => if l_ = 1 then 8 else l_) rfl), (f28.relab (fun l_ => if l_ = 1 then 8 else l_) rfl), H⟩ (by rintro _ _ ⟨_, _, _, _, _, H_⟩; exact absurd (show (none : Option Bool) = some r from H_) (by simp)) ?_
    rintro k108 a w107 ⟨o94, x95, hk, hs, f28, H⟩
    rw [tidewracklaw04_PartsSizes_l2] at H
    obtain ⟨lp109, hlp110⟩ : ∃ lp_, lp_ = tidewracklaw04_PartsSizes_l2 p1 t13 t21 k108 := ⟨_, rfl⟩
    rw [← hlp110] at H
    refine x_seq ?_
    refine wpIn_region_lit ?_
    refine x_run tab hk (k := 1) (lv := []) (ks := [0, 5, 6, 19, 20, 21, 22]) (e' := [(0, .string t13), (5, .int .i64 (mxI 1 (mnI p1 8000))), (6, .slice A26 (t21).length c27), (19, .slice A26 (t21).length c27), (20, .int .i64 ((t21).length : Int)), (21, .int .i64 x95), (22, .bool (decide (x95 < ((t21).length : Int))))]) rfl trivial fun a hk => ?_
    refine wpListIn_nil ?_
    refine then_n ?_
    refine x_seq ?_
    cases b111 : (decide (x95 < ((t21).length : Int)))
    · rw [b111] at hk H
      replace H := bifF H
      refine x_if hk (b := false) rfl ?_
      refine (show Code.wpIn _ _ _ _ _ _ _ from ?_)
      refine wpIn_exit ?_
      refine then_x ?_
      refine then_x ?_
      refine blk_x ?_
      refine then_n ?_
      exact ⟨(fun b_ => (fun l_ => if l_ = 8 then 5 else l_) (o94 b_)), (by exact Kn.pick (ks := [0, 5, 6]) hk rfl), (hs.relab0 (fun l_ => if l_ = 8 then 5 else l_) rfl), (f28.relab (fun l_ => if l_ = 8 then 5 else l_) rfl), H⟩
    · rw [b111] at hk H
      replace H := bifT H
      refine x_if hk (b := true) rfl ?_
      refine (show Code.wpIn _ _ _ _ _ _ _ from ?_)
      refine wpIn_skip ?_
      refine then_n ?_
      refine x_seq ?_
      refine wpIn_block ?_
      refine x_seq ?_
      refine wpIn_region_lit ?_
      obtain ⟨q112, H⟩ := ifS H
      obtain ⟨ad113, hAad113⟩ := RdC.addr (Own.rd f28.now) q112
      have hk_C := hk
      have f28_C := f28
      subst hAad113
      have hk := hk_C
      clear hk_C
      have f28 := f28_C
      clear f28_C
      refine x_run tab hk (k := 5) (lv := [.string (rdD (⟨#[]⟩ : ByteArray) t21 x95)]) (ks := [0, 5, 6, 7, 8, 19, 20, 21]) (e' := [(0, .string t13), (5, .int .i64 (mxI 1 (mnI p1 8000))), (6, .slice (some ad113) (t21).length c27), (7, .int .i64 x95), (8, .string (rdD (⟨#[]⟩ : ByteArray) t21 x95)), (19, .slice (some ad113) (t21).length c27), (20, .int .i64 ((t21).length : Int)), (21, .int .i64 x95)]) rfl ⟨q112, (load1 tab rfl (RdC.at0 (E := encStr) (d := (⟨#[]⟩ : ByteArray)) (i := x95) (Own.rd f28.now) q112 rfl)), trivial⟩ fun a hk => ?_
      refine wpListIn_nil ?_
      refine then_n ?_
      refine x_seq ?_
      refine wpIn_region_lit ?_
      refine x_run tab hk (k := 6) (lv := []) (ks := [0, 5, 6, 8, 19, 20, 21, 31]) (e' := [(0, .string t13), (5, .int .i64 (mxI 1 (mnI p1 8000))), (6, .slice (some ad113) (t21).length c27), (8, .string (rdD (⟨#[]⟩ : ByteArray) t21 x95)), (19, .slice (some ad113) (t21).length c27), (20, .int .i64 ((t21).length : Int)), (21, .int .i64 x95), (31, .bool (decide (x95 < (IntKind.wrap .i64 (((t21).length : Int) - 1)))))]) rfl trivial fun a hk => ?_
      cases b114 : (decide (x95 < (IntKind.wrap .i64 (((t21).length : Int) - 1))))
      · rw [b114] at hk H
        replace H := bifF H
        refine x_run tab hk (k := 10) (lv := []) (ks := [0, 5, 6, 8, 19, 20, 21, 37, 41]) (e' := [(0, .string t13), (5, .int .i64 (mxI 1 (mnI p1 8000))), (6, .slice (some ad113) (t21).length c27), (8, .string (rdD (⟨#[]⟩ : ByteArray) t21 x95)), (19, .slice (some ad113) (t21).length c27), (20, .int .i64 ((t21).length : Int)), (21, .int .i64 x95), (37, .bool false), (41, .bool (decide ((((rdD (⟨#[]⟩ : ByteArray) t21 x95)).size : Int) > (mxI 1 (mnI p1 8000)))))]) rfl trivial fun a hk => ?_
        refine x_run tab hk (k := 2) (lv := []) (ks := [0, 5, 6, 8, 19, 20, 21, 43]) (e' := [(0, .string t13), (5, .int .i64 (mxI 1 (mnI p1 8000))), (6, .slice (some ad113) (t21).length c27), (8, .string (rdD (⟨#[]⟩ : ByteArray) t21 x95)), (19, .slice (some ad113) (t21).length c27), (20, .int .i64 ((t21).length : Int)), (21, .int .i64 x95), (43, .bool (decide ((((rdD (⟨#[]⟩ : ByteArray) t21 x95)).size : Int) > (mxI 1 (mnI p1 8000)))))]) rfl trivial fun a hk => ?_
        cases b115 : (decide ((((rdD (⟨#[]⟩ : ByteArray) t21 x95)).size : Int) > (mxI 1 (mnI p1 8000))))
        · rw [b115] at hk H
          replace H := bifF H
          refine x_run tab hk (k := 3) (lv := []) (ks := [0, 5, 6, 19, 20, 21, 43, 46]) (e' := [(0, .string t13), (5, .int .i64 (mxI 1 (mnI p1 8000))), (6, .slice (some ad113) (t21).length c27), (19, .slice (some ad113) (t21).length c27), (20, .int .i64 ((t21).length : Int)), (21, .int .i64 x95), (43, .bool false), (46, .bool (ByteArray.toList (rdD (⟨#[]⟩ : ByteArray) t21 x95) == ByteArray.toList (⟨#[]⟩ : ByteArray)))]) rfl trivial fun a hk => ?_
          cases b116 : (ByteArray.toList (rdD (⟨#[]⟩ : ByteArray) t21 x95) == ByteArray.toList (⟨#[]⟩ : ByteArray))
          · rw [b116] at hk H
            replace H := bifF H
            refine x_run tab hk (k := 4) (lv := []) (ks := [0, 5, 6, 19, 20, 21, 50]) (e' := [(0, .string t13), (5, .int .i64 (mxI 1 (mnI p1 8000))), (6, .slice (some ad113) (t21).length c27), (19, .slice (some ad113) (t21).length c27), (20, .int .i64 ((t21).length : Int)), (21, .int .i64 x95), (50, .bool false)]) rfl trivial fun a hk => ?_
            refine wpListIn_nil ?_
            refine then_n ?_
            refine x_if hk (b := false) rfl ?_
            refine (show Code.wpIn _ _ _ _ _ _ _ from ?_)
            refine wpIn_skip ?_
            refine blk_n ?_
            refine then_n ?_
            refine wpIn_region_lit ?_
            refine x_run tab hk (k := 2) (lv := []) (ks := [0, 5, 6, 19, 20, 21]) (e' := [(0, .string t13), (5, .int .i64 (mxI 1 (mnI p1 8000))), (6, .slice (some ad113) (t21).length c27), (19, .slice (some ad113) (t21).length c27), (20, .int .i64 ((t21).length : Int)), (21, .int .i64 (IntKind.wrap .i64 (x95 + 1)))]) rfl trivial fun a hk => ?_
            refine wpListIn_nil ?_
            refine then_n ?_
            exact ⟨k108, Nat.le_refl _, o94, (IntKind.wrap .i64 (x95 + 1)), (by exact Kn.pick (ks := [0, 5, 6, 19, 20, 21]) hk rfl), hs, f28, (hlp110 ▸ H)⟩
          · rw [b116] at hk H
            replace H := bifT H
            refine x_run tab hk (k := 4) (lv := []) (ks := [0, 5, 6, 19, 20, 21, 50]) (e' := [(0, .string t13), (5, .int .i64 (mxI 1 (mnI p1 8000))), (6, .slice (some ad113) (t21).length c27), (19, .slice (some ad113) (t21).length c27), (20, .int .i64 ((t21).length : Int)), (21, .int .i64 x95), (50, .bool (!(ByteArray.toList t13 == ByteArray.toList (⟨#[]⟩ : ByteArray))))]) rfl trivial fun a hk => ?_
            refine wpListIn_nil ?_
            refine then_n ?_
            cases b117 : (!(ByteArray.toList t13 == ByteArray.toList (⟨#[]⟩ : ByteArray)))
            · rw [b117] at hk H
              replace H := bifF H
              refine x_if hk (b := false) rfl ?_
              refine (show Code.wpIn _ _ _ _ _ _ _ from ?_)
              refine wpIn_skip ?_
              refine blk_n ?_
              refine then_n ?_
              refine wpIn_region_lit ?_
              refine x_run tab hk (k := 2) (lv := []) (ks := [0, 5, 6, 19, 20, 21]) (e' := [(0, .string t13), (5, .int .i64 (mxI 1 (mnI p1 8000))), (6, .slice (some ad113) (t21).length c27), (19, .slice (some ad113) (t21).length c27), (20, .int .i64 ((t21).length : Int)), (21, .int .i64 (IntKind.wrap .i64 (x95 + 1)))]) rfl trivial fun a hk => ?_
              refine wpListIn_nil ?_
              refine then_n ?_
              exact ⟨k108, Nat.le_refl _, o94, (IntKind.wrap .i64 (x95 + 1)), (by exact Kn.pick (ks := [0, 5, 6, 19, 20, 21]) hk rfl), hs, f28, (hlp110 ▸ H)⟩
            · rw [b117] at hk H
              replace H := bifT H
              refine x_if hk (b := true) rfl ?_
              refine (show Code.wpIn _ _ _ _ _ _ _ from ?_)
              refine x_seq ?_
              refine wpIn_region_lit ?_
              refine x_run tab hk (k := 1) (lv := []) (ks := [4]) (e' := [(4, .bool false)]) rfl trivial fun a hk => ?_
              refine wpListIn_nil ?_
              refine then_n ?_
              refine wpIn_ret ?_
              refine blk_r ?_
              refine then_r ?_
              refine then_r ?_
              refine blk_r ?_
              refine then_r ?_
              obtain rfl := Option.some.inj H
              exact x_retG hk (rs := [.tmp 4]) (vs := [.bool false]) rfl ⟨rfl, trivial⟩ ⟨fun b_ => if b_ < w.heap.size then o b_ else (fun _ => 0) (o94 b_), rfl, hs.close0 o (fun _ => 0)⟩
        · rw [b115] at hk H
          replace H := bifT H
          refine x_run tab hk (k := 7) (lv := []) (ks := [0, 5, 6, 19, 20, 21, 50]) (e' := [(0, .string t13), (5, .int .i64 (mxI 1 (mnI p1 8000))), (6, .slice (some ad113) (t21).length c27), (19, .slice (some ad113) (t21).length c27), (20, .int .i64 ((t21).length : Int)), (21, .int .i64 x95), (50, .bool true)]) rfl trivial fun a hk => ?_
          refine wpListIn_nil ?_
          refine then_n ?_
          refine x_if hk (b := true) rfl ?_
          refine (show Code.wpIn _ _ _ _ _ _ _ from ?_)
          refine x_seq ?_
          refine wpIn_region_lit ?_
          refine x_run tab hk (k := 1) (lv := []) (ks := [4]) (e' := [(4, .bool false)]) rfl trivial fun a hk => ?_
          refine wpListIn_nil ?_
          refine then_n ?_
          refine wpIn_ret ?_
          refine blk_r ?_
          refine then_r ?_
          refine then_r ?_
          refine blk_r ?_
          refine then_r ?_
          obtain rfl := Option.some.inj H
          exact x_retG hk (rs := [.tmp 4]) (vs := [.bool false]) rfl ⟨rfl, trivial⟩ ⟨fun b_ => if b_ < w.heap.size then o b_ else (fun _ => 0) (o94 b_), rfl, hs.close0 o (fun _ => 0)⟩
      · rw [b114] at hk H
        replace H := bifT H
        refine x_run tab hk (k := 6) (lv := []) (ks := [0, 5, 6, 8, 19, 20, 21, 37]) (e' := [(0, .string t13), (5, .int .i64 (mxI 1 (mnI p1 8000))), (6, .slice (some ad113) (t21).length c27), (8, .string (rdD (⟨#[]⟩ : ByteArray) t21 x95)), (19, .slice (some ad113) (t21).length c27), (20, .int .i64 ((t21).length : Int)), (21, .int .i64 x95), (37, .bool ((((rdD (⟨#[]⟩ : ByteArray) t21 x95)).size : Int) != (mxI 1 (mnI p1 8000))))]) rfl trivial fun a hk => ?_
        cases b118 : ((((rdD (⟨#[]⟩ : ByteArray) t21 x95)).size : Int) != (mxI 1 (mnI p1 8000)))
        · rw [b118] at hk H
          replace H := bifF H
          refine x_run tab hk (k := 6) (lv := []) (ks := [0, 5, 6, 8, 19, 20, 21, 43]) (e' := [(0, .string t13), (5, .int .i64 (mxI 1 (mnI p1 8000))), (6, .slice (some ad113) (t21).length c27), (8, .string (rdD (⟨#[]⟩ : ByteArray) t21 x95)), (19, .slice (some ad113) (t21).length c27), (20, .int .i64 ((t21).length : Int)), (21, .int .i64 x95), (43, .bool (decide ((((rdD (⟨#[]⟩ : ByteArray) t21 x95)).size : Int) > (mxI 1 (mnI p1 8000)))))]) rfl trivial fun a hk => ?_
          cases b119 : (decide ((((rdD (⟨#[]⟩ : ByteArray) t21 x95)).size : Int) > (mxI 1 (mnI p1 8000))))
          · rw [b119] at hk H
            replace H := bifF H
            refine x_run tab hk (k := 3) (lv := []) (ks := [0, 5, 6, 19, 20, 21, 43, 46]) (e' := [(0, .string t13), (5, .int .i64 (mxI 1 (mnI p1 8000))), (6, .slice (some ad113) (t21).length c27), (19, .slice (some ad113) (t21).length c27), (20, .int .i64 ((t21).length : Int)), (21, .int .i64 x95), (43, .bool false), (46, .bool (ByteArray.toList (rdD (⟨#[]⟩ : ByteArray) t21 x95) == ByteArray.toList (⟨#[]⟩ : ByteArray)))]) rfl trivial fun a hk => ?_
            cases b120 : (ByteArray.toList (rdD (⟨#[]⟩ : ByteArray) t21 x95) == ByteArray.toList (⟨#[]⟩ : ByteArray))
            · rw [b120] at hk H
              replace H := bifF H
              refine x_run tab hk (k := 4) (lv := []) (ks := [0, 5, 6, 19, 20, 21, 50]) (e' := [(0, .string t13), (5, .int .i64 (mxI 1 (mnI p1 8000))), (6, .slice (some ad113) (t21).length c27), (19, .slice (some ad113) (t21).length c27), (20, .int .i64 ((t21).length : Int)), (21, .int .i64 x95), (50, .bool false)]) rfl trivial fun a hk => ?_
              refine wpListIn_nil ?_
              refine then_n ?_
              refine x_if hk (b := false) rfl ?_
              refine (show Code.wpIn _ _ _ _ _ _ _ from ?_)
              refine wpIn_skip ?_
              refine blk_n ?_
              refine then_n ?_
              refine wpIn_region_lit ?_
              refine x_run tab hk (k := 2) (lv := []) (ks := [0, 5, 6, 19, 20, 21]) (e' := [(0, .string t13), (5, .int .i64 (mxI 1 (mnI p1 8000))), (6, .slice (some ad113) (t21).length c27), (19, .slice (some ad113) (t21).length c27), (20, .int .i64 ((t21).length : Int)), (21, .int .i64 (IntKind.wrap .i64 (x95 + 1)))]) rfl trivial fun a hk => ?_
              refine wpListIn_nil ?_
              refine then_n ?_
              exact ⟨k108, Nat.le_refl _, o94, (IntKind.wrap .i64 (x95 + 1)), (by exact Kn.pick (ks := [0, 5, 6, 19, 20, 21]) hk rfl), hs, f28, (hlp110 ▸ H)⟩
            · rw [b120] at hk H
              replace H := bifT H
              refine x_run tab hk (k := 4) (lv := []) (ks := [0, 5, 6, 19, 20, 21, 50]) (e' := [(0, .string t13), (5, .int .i64 (mxI 1 (mnI p1 8000))), (6, .slice (some ad113) (t21).length c27), (19, .slice (some ad113) (t21).length c27), (20, .int .i64 ((t21).length : Int)), (21, .int .i64 x95), (50, .bool (!(ByteArray.toList t13 == ByteArray.toList (⟨#[]⟩ : ByteArray))))]) rfl trivial fun a hk => ?_
              refine wpListIn_nil ?_
              refine then_n ?_
              cases b121 : (!(ByteArray.toList t13 == ByteArray.toList (⟨#[]⟩ : ByteArray)))
              · rw [b121] at hk H
                replace H := bifF H
                refine x_if hk (b := false) rfl ?_
                refine (show Code.wpIn _ _ _ _ _ _ _ from ?_)
                refine wpIn_skip ?_
                refine blk_n ?_
                refine then_n ?_
                refine wpIn_region_lit ?_
                refine x_run tab hk (k := 2) (lv := []) (ks := [0, 5, 6, 19, 20, 21]) (e' := [(0, .string t13), (5, .int .i64 (mxI 1 (mnI p1 8000))), (6, .slice (some ad113) (t21).length c27), (19, .slice (some ad113) (t21).length c27), (20, .int .i64 ((t21).length : Int)), (21, .int .i64 (IntKind.wrap .i64 (x95 + 1)))]) rfl trivial fun a hk => ?_
                refine wpListIn_nil ?_
                refine then_n ?_
                exact ⟨k108, Nat.le_refl _, o94, (IntKind.wrap .i64 (x95 + 1)), (by exact Kn.pick (ks := [0, 5, 6, 19, 20, 21]) hk rfl), hs, f28, (hlp110 ▸ H)⟩
              · rw [b121] at hk H
                replace H := bifT H
                refine x_if hk (b := true) rfl ?_
                refine (show Code.wpIn _ _ _ _ _ _ _ from ?_)
                refine x_seq ?_
                refine wpIn_region_lit ?_
                refine x_run tab hk (k := 1) (lv := []) (ks := [4]) (e' := [(4, .bool false)]) rfl trivial fun a hk => ?_
                refine wpListIn_nil ?_
                refine then_n ?_
                refine wpIn_ret ?_
                refine blk_r ?_
                refine then_r ?_
                refine then_r ?_
                refine blk_r ?_
                refine then_r ?_
                obtain rfl := Option.some.inj H
                exact x_retG hk (rs := [.tmp 4]) (vs := [.bool false]) rfl ⟨rfl, trivial⟩ ⟨fun b_ => if b_ < w.heap.size then o b_ else (fun _ => 0) (o94 b_), rfl, hs.close0 o (fun _ => 0)⟩
          · rw [b119] at hk H
            replace H := bifT H
            refine x_run tab hk (k := 7) (lv := []) (ks := [0, 5, 6, 19, 20, 21, 50]) (e' := [(0, .string t13), (5, .int .i64 (mxI 1 (mnI p1 8000))), (6, .slice (some ad113) (t21).length c27), (19, .slice (some ad113) (t21).length c27), (20, .int .i64 ((t21).length : Int)), (21, .int .i64 x95), (50, .bool true)]) rfl trivial fun a hk => ?_
            refine wpListIn_nil ?_
            refine then_n ?_
            refine x_if hk (b := true) rfl ?_
            refine (show Code.wpIn _ _ _ _ _ _ _ from ?_)
            refine x_seq ?_
            refine wpIn_region_lit ?_
            refine x_run tab hk (k := 1) (lv := []) (ks := [4]) (e' := [(4, .bool false)]) rfl trivial fun a hk => ?_
            refine wpListIn_nil ?_
            refine then_n ?_
            refine wpIn_ret ?_
            refine blk_r ?_
            refine then_r ?_
            refine then_r ?_
            refine blk_r ?_
            refine then_r ?_
            obtain rfl := Option.some.inj H
            exact x_retG hk (rs := [.tmp 4]) (vs := [.bool false]) rfl ⟨rfl, trivial⟩ ⟨fun b_ => if b_ < w.heap.size then o b_ else (fun _ => 0) (o94 b_), rfl, hs.close0 o (fun _ => 0)⟩
        · rw [b118] at hk H
          replace H := bifT H
          refine x_run tab hk (k := 12) (lv := []) (ks := [0, 5, 6, 19, 20, 21, 43, 49]) (e' := [(0, .string t13), (5, .int .i64 (mxI 1 (mnI p1 8000))), (6, .slice (some ad113) (t21).length c27), (19, .slice (some ad113) (t21).length c27), (20, .int .i64 ((t21).length : Int)), (21, .int .i64 x95), (43, .bool true), (49, undef)]) rfl trivial fun a hk => ?_
          refine x_run tab hk (k := 1) (lv := []) (ks := [0, 5, 6, 19, 20, 21, 50]) (e' := [(0, .string t13), (5, .int .i64 (mxI 1 (mnI p1 8000))), (6, .slice (some ad113) (t21).length c27), (19, .slice (some ad113) (t21).length c27), (20, .int .i64 ((t21).length : Int)), (21, .int .i64 x95), (50, .bool true)]) rfl trivial fun a hk => ?_
          refine wpListIn_nil ?_
          refine then_n ?_
          refine x_if hk (b := true) rfl ?_
          refine (show Code.wpIn _ _ _ _ _ _ _ from ?_)
          refine x_seq ?_
          refine wpIn_region_lit ?_
          refine x_run tab hk (k := 1) (lv := []) (ks := [4]) (e' := [(4, .bool false)]) rfl trivial fun a hk => ?_
          refine wpListIn_nil ?_
          refine then_n ?_
          refine wpIn_ret ?_
          refine blk_r ?_
          refine then_r ?_
          refine then_r ?_
          refine blk_r ?_
          refine then_r ?_
          obtain rfl := Option.some.inj H
          exact x_retG hk (rs := [.tmp 4]) (vs := [.bool false]) rfl ⟨rfl, trivial⟩ ⟨fun b_ => if b_ < w.heap.size then o b_ else (fun _ => 0) (o94 b_), rfl, hs.close0 o (fun _ => 0)⟩
  · rw [b9] at hk H
    replace H := bifT H
    refine x_if hk (b := true) rfl ?_
    refine (show Code.wpIn _ _ _ _ _ _ _ from ?_)
    refine x_seq ?_
    refine wpIn_region_lit ?_
    refine x_run tab hk (k := 1) (lv := []) (ks := [4]) (e' := [(4, .bool false)]) rfl trivial fun a hk => ?_
    refine wpListIn_nil ?_
    refine then_n ?_
    refine wpIn_ret ?_
    refine then_r ?_
    obtain rfl := Option.some.inj H
    exact x_retG hk (rs := [.tmp 4]) (vs := [.bool false]) rfl ⟨rfl, trivial⟩ ⟨fun b_ => if b_ < w.heap.size then o b_ else (fun _ => 0) (o7 b_), rfl, hs.close0 o (fun _ => 0)⟩

/-! (*tidewrack/parts.Slot).which -/
theorem parts_Slot_which_calls (K : Nat) (bp0 : Nat) (Ap0_0 : Option Addr) (cp0_0 : Nat) (p0 : T29) (p1 : Bool) (w : World) (o : Nat → Nat) (Lp0 : Nat) (hp0 : Ft (Bx bp0 30 [.int .i64 p0.key, .int .i64 p0.count, mv Ap0_0, .int .i64 p0.bytes]) w o Lp0) (Lp0_0 : Nat) (hp0_0 : Ft (MpF encStr false Ap0_0 p0.parts) w o Lp0_0) (hcp0_0 : (p0.parts).length ≤ cp0_0)  (R0 : Nat) (r : List Int) (H : parts_Slot_which K p0 p1 = some r) :
    Calls Try.prog 23 #[.pointer (some ⟨bp0, 0, none⟩), .bool p1] w (Ret fun v_ w' => ∃ o' : Nat → Nat, ∃ A0 : Option Addr, ∃ c0 : Nat, v_ = .slice A0 (r).length c0 ∧ St [] w o w' o' ∧ Ft (Own (encInt .i64) 3 (.slice A0 (r).length c0) r) w' o' R0 ∧ (r).length ≤ c0) := by
  refine x_enterQ (vs := [.pointer (some ⟨bp0, 0, none⟩), .bool p1]) Try.func23 rfl rfl rfl fun a hk => ?_
  obtain ⟨o0, hs, h0⟩ := St.start w o
  have f900000 := h0 _ _ hp0_0
  have f900019 := h0 _ _ hp0
  have fxm : Ft (MK []) w o0 1 := Ft.of_all (fun _ => MK.nil _) _ _ _
  clear h0
  rw [parts_Slot_which] at H
  refine x_seq ?_
  refine wpIn_region_lit ?_
  refine x_op hk rfl ?_
  refine op_box (o := o0) (t := 4) (v := .bool p1) (cs := [.bool p1]) hk rfl rfl 2 fun bx4 w1 o2 st3 f5 => ?_
  replace f900000 := f900000.st st3 (by decide)
  replace f900019 := f900019.st st3 (by decide)
  replace fxm := fxm.st st3 (by decide)
  replace hs := hs.loc0 st3 (by decide)
  have hk := hk.put 3 (.pointer (some ⟨bx4, 0, none⟩)) rfl
  refine x_run tab hk (k := 1) (lv := []) (ks := [0, 3]) (e' := [(0, .pointer (some ⟨bp0, 0, none⟩)), (3, .pointer (some ⟨bx4, 0, none⟩))]) rfl trivial fun a hk => ?_
  refine wpListIn_nil ?_
  refine then_n ?_
  refine x_seq ?_
  refine wpIn_region_lit ?_
  refine x_op hk rfl ?_
  refine op_alloc (o := o2) tab (t := 27) (cs := [.slice none 0 0]) rfl rfl 3 fun bx9 w6 o7 st8 f10 => ?_
  replace f5 := f5.st st8 (by decide)
  replace f900000 := f900000.st st8 (by decide)
  replace f900019 := f900019.st st8 (by decide)
  replace fxm := fxm.st st8 (by decide)
  replace hs := hs.loc0 st8 (by decide)
  have hk := hk.put 5 (.pointer (some ⟨bx9, 0, none⟩)) rfl
  refine wpListIn_nil ?_
  refine then_n ?_
  refine x_mid (fun a_ w_ => ∃ o110 : Nat → Nat, ∃ ds111 : List Deferred, ∃ A112 : Option Addr, ∃ c113 : Nat, ∃ l114 : List Int, KnD 20 ds111 a_ [(5, .pointer (some ⟨bx9, 0, none⟩))] ∧ St [] w (fun _ => 0) w_ o110 ∧ Ft (Bx bx9 27 [.slice A112 (l114).length c113]) w_ o110 14 ∧ Ft (Own (encInt .i64) 3 (.slice A112 (l114).length c113) l114) w_ o110 13 ∧ Ft (MpF encStr false Ap0_0 p0.parts) w_ o110 0 ∧ Ft (Bx bp0 30 [.int .i64 p0.key, .int .i64 p0.count, mv Ap0_0, .int .i64 p0.bytes]) w_ o110 0 ∧ Ft (MK ds111) w_ o110 1 ∧ (l114).length ≤ c113 ∧ parts_Slot_which_j1 l114 = some r) ?_ ?_
  rotate_left
  · rintro a w117 ⟨o110, ds111, A112, c113, l114, hk, hs, f10, f115, f900000, f900019, fxm, hc116, H⟩
    rw [parts_Slot_which_j1] at H
    refine x_seq ?_
    refine wpIn_region_lit ?_
    refine x_run tab hk (k := 2) (lv := [.slice A112 (l114).length c113]) (ks := [4]) (e' := [(4, .slice A112 (l114).length c113)]) rfl ⟨(load1 tab rfl ((Bx.cell f10.now 0).trans rfl)), trivial⟩ fun a hk => ?_
    refine wpListIn_nil ?_
    refine then_n ?_
    refine wpIn_ret ?_
    refine x_retQ hk fxm fun w118 a st119 hk => ?_
    replace f115 := f115.st st119 (by decide)
    replace f900000 := f900000.st st119 (by decide)
    replace f900019 := f900019.st st119 (by decide)
    replace hs := hs.loc0 st119 (by decide)
    obtain rfl := Option.some.inj H
    exact x_retG hk (rs := [.tmp 4]) (vs := [.slice A112 (l114).length c113]) rfl ⟨rfl, trivial⟩ ⟨fun b_ => if b_ < w.heap.size then o b_ else (fun _ => R0) (o110 b_), A112, c113, rfl, hs.close0 o (fun _ => R0), hs.close_ft (o := o) (ρ := fun _ => R0) f115 (by decide) rfl, hc116⟩
  refine x_seq ?_
  refine wpIn_region_lit ?_
  refine x_run tab hk (k := 2) (lv := []) (ks := [3, 5, 9]) (e' := [(3, .pointer (some ⟨bx4, 0, none⟩)), (5, .pointer (some ⟨bx9, 0, none⟩)), (9, .func (.func 20) #[.pointer (some ⟨bp0, 0, none⟩)] #[])]) rfl trivial fun a hk => ?_
  refine wpListIn_nil ?_
  refine then_n ?_
  refine wpIn_block ?_
  obtain ⟨ys120, hy121, H⟩ := bindS H
  refine x_range 1 15 16 [3, 20] hk rfl ent_20 (parts_Slot_each_iter K bp0 Ap0_0 cp0_0 p0 _ _ 0 f900019 0 f900000 hcp0_0 (by decide) (by decide) (by decide) _ hy121) fxm (fun _ _ _ h_ => by subst h_; rfl) rfl rfl (fun rr_ w_ o156 => ∃ A157 : Option Addr, ∃ c158 : Nat, ∃ l159 : List Int, St [] w (fun _ => 0) w_ o156 ∧ Ft (Bx bx9 27 [.slice A157 (l159).length c158]) w_ o156 3 ∧ Ft (Own (encInt .i64) 3 (.slice A157 (l159).length c158) l159) w_ o156 20 ∧ Ft (Bx bx4 4 [.bool p1]) w_ o156 2 ∧ Ft (MpF encStr false Ap0_0 p0.parts) w_ o156 0 ∧ Ft (Bx bp0 30 [.int .i64 p0.key, .int .i64 p0.count, mv Ap0_0, .int .i64 p0.bytes]) w_ o156 0 ∧ (l159).length ≤ c158 ∧ parts_Slot_which_r2 p1 rr_ l159 = some r) (fun c_ w_ o182 => False) ?_ ?_ ⟨none, 0, ([] : List Int), hs, f10, (Ft.of_all (fun _ => Own.nil _ _ _) _ _ _), f5, f900000, f900019, (by simp), H⟩ ?_ ?_ ?_
  · rintro rr_ w_ _ _ _ ⟨A157, c158, l159, hs, f10, f160, f5, f900000, f900019, hc161, H⟩ st_
    exact ⟨A157, c158, l159, hs.loc0 st_ (by decide), f10.st st_ (by decide), f160.st st_ (by decide), f5.st st_ (by decide), f900000.st st_ (by decide), f900019.st st_ (by decide), hc161, H⟩
  · exact fun _ _ _ _ _ h_ _ => h_.elim
  · rintro R0_ R1_ lr_ x122 vs_ rest123 w124 o125 ⟨A157, c158, l159, hsO, f10, f160, f5, f900000, f900019, hc161, H⟩ hE fxr a hk
    obtain rfl : vs_ = [.int .i64 x122.1, .bool x122.2] := hE w124
    obtain ⟨o126, hs0, hfl, hbB, hoi⟩ := St.startB w124 o125 20
    have hs := hs0 [15, 3, 20]
    replace f10 := hfl f10 rfl
    replace f160 := hfl f160 rfl
    replace f5 := hfl f5 rfl
    replace f900000 := hfl f900000 rfl
    replace f900019 := hfl f900019 rfl
    replace fxr := hfl fxr rfl
    replace hk : Kn 20 a [(3, .pointer (some ⟨bx4, 0, none⟩)), (5, .pointer (some ⟨bx9, 0, none⟩)), (10, .int .i64 x122.1), (11, .bool x122.2)] := Kn.pick (ks := [3, 5, 10, 11]) hk rfl
    rw [parts_Slot_which_r2] at H
    obtain ⟨lp127, hlp128⟩ : ∃ lp_, lp_ = parts_Slot_which_r2 p1 rest123 := ⟨_, rfl⟩
    rw [← hlp128] at H
    refine x_seq ?_
    refine wpIn_region_lit ?_
    refine x_run tab hk (k := 1) (lv := []) (ks := [3, 5, 6, 11]) (e' := [(3, .pointer (some ⟨bx4, 0, none⟩)), (5, .pointer (some ⟨bx9, 0, none⟩)), (6, .int .i64 x122.1), (11, .bool x122.2)]) rfl trivial fun a hk => ?_
    refine wpListIn_nil ?_
    refine then_n ?_
    refine wpIn_region_lit ?_
    refine x_run tab hk (k := 1) (lv := []) (ks := [3, 5, 6, 7]) (e' := [(3, .pointer (some ⟨bx4, 0, none⟩)), (5, .pointer (some ⟨bx9, 0, none⟩)), (6, .int .i64 x122.1), (7, .bool x122.2)]) rfl trivial fun a hk => ?_
    refine wpListIn_nil ?_
    refine then_n ?_
    refine ⟨_, fxr, fun w185 st186 fxr => ?_⟩
    replace f10 := f10.st st186 (by decide)
    replace f160 := f160.st st186 (by decide)
    replace f5 := f5.st st186 (by decide)
    replace f900000 := f900000.st st186 (by decide)
    replace f900019 := f900019.st st186 (by decide)
    replace hs := hs.locB st186 rfl hbB
    refine wpIn_block ?_
    refine x_seq ?_
    refine wpIn_region_lit ?_
    refine x_run tab hk (k := 3) (lv := [.bool p1]) (ks := [3, 5, 6, 14]) (e' := [(3, .pointer (some ⟨bx4, 0, none⟩)), (5, .pointer (some ⟨bx9, 0, none⟩)), (6, .int .i64 x122.1), (14, .bool (x122.2 == p1))]) rfl ⟨(load1 tab rfl ((Bx.cell f5.now 0).trans rfl)), trivial⟩ fun a hk => ?_
    refine wpListIn_nil ?_
    refine then_n ?_
    cases b187 : (x122.2 == p1)
    · rw [b187] at hk H
      replace H := bifF H
      refine x_if hk (b := false) rfl ?_
      refine (show Code.wpIn _ _ _ _ _ _ _ from ?_)
      refine wpIn_skip ?_
      refine blk_n ?_
      have hq188 := hs.closeB hoi hbB rfl (fun l_ => if l_ = 2 then 2 else if l_ = 3 then 3 else if l_ = 20 then 20 else 0)
      exact ⟨_, hq188, fxr.now, ⟨A157, c158, l159, (hsO.loc0 hq188 (by decide)), (hs.closeM_ft (o := o125) (ρ := (fun l_ => if l_ = 2 then 2 else if l_ = 3 then 3 else if l_ = 20 then 20 else 0)) f10 (lab_atB hoi rfl) rfl), (hs.closeM_ft (o := o125) (ρ := (fun l_ => if l_ = 2 then 2 else if l_ = 3 then 3 else if l_ = 20 then 20 else 0)) f160 (lab_atB hoi rfl) rfl), (hs.closeM_ft (o := o125) (ρ := (fun l_ => if l_ = 2 then 2 else if l_ = 3 then 3 else if l_ = 20 then 20 else 0)) f5 (lab_atB hoi rfl) rfl), (hs.closeM_ft (o := o125) (ρ := (fun l_ => if l_ = 2 then 2 else if l_ = 3 then 3 else if l_ = 20 then 20 else 0)) f900000 (lab_atB hoi rfl) rfl), (hs.closeM_ft (o := o125) (ρ := (fun l_ => if l_ = 2 then 2 else if l_ = 3 then 3 else if l_ = 20 then 20 else 0)) f900019 (lab_atB hoi rfl) rfl), hc161, (hlp128 ▸ H)⟩⟩
    · rw [b187] at hk H
      replace H := bifT H
      refine x_if hk (b := true) rfl ?_
      refine (show Code.wpIn _ _ _ _ _ _ _ from ?_)
      refine wpIn_region_lit ?_
      refine x_run tab hk (k := 2) (lv := [.slice A157 (l159).length c158]) (ks := [3, 5, 15, 16]) (e' := [(3, .pointer (some ⟨bx4, 0, none⟩)), (5, .pointer (some ⟨bx9, 0, none⟩)), (15, .slice A157 (l159).length c158), (16, .int .i64 x122.1)]) rfl ⟨(load1 tab rfl ((Bx.cell f10.now 0).trans rfl)), trivial⟩ fun a hk => ?_
      refine x_op hk rfl ?_
      refine op_slice (o := o126) tab hk (vs := [.int .i64 x122.1]) (cs := [.int .i64 x122.1]) rfl rfl rfl rfl rfl rfl rfl rfl rfl 23 fun bx192 w189 o190 st191 f193 => ?_
      replace f10 := f10.st st191 (by decide)
      replace f160 := f160.st st191 (by decide)
      replace f5 := f5.st st191 (by decide)
      replace f900000 := f900000.st st191 (by decide)
      replace f900019 := f900019.st st191 (by decide)
      replace fxr := fxr.st st191 (by decide)
      replace hs := hs.locB st191 rfl hbB
      have f194 : Ft (Own (encInt .i64) 3 (.slice (some ⟨bx192, 0, none⟩) (([x122.1] : List Int)).length 1) ([x122.1] : List Int)) w189 o190 23 := f193.imp fun _ h_ => Own.of_box h_ rfl (by simp)
      have hk := hk.put 17 (.slice (some ⟨bx192, 0, none⟩) (([x122.1] : List Int)).length 1) rfl
      refine x_op hk rfl ?_
      obtain ⟨q198, H⟩ := ifS H
      refine op_append (o := o190) (E := (encInt .i64)) (xs := l159) (ys := ([x122.1] : List Int)) tab hk rfl rfl rfl rfl rfl rfl rfl f160 (Own.rd f194.now) q198 fun A199 c200 w195 o196 st197 f201 hc202 => ?_
      replace f10 := f10.st st197 (by decide)
      replace f194 := f194.st st197 (by decide)
      replace f5 := f5.st st197 (by decide)
      replace f900000 := f900000.st st197 (by decide)
      replace f900019 := f900019.st st197 (by decide)
      replace fxr := fxr.st st197 (by decide)
      replace hs := hs.locB st197 rfl hbB
      have hk := hk.put 18 (.slice A199 ((l159 ++ ([x122.1] : List Int))).length c200) rfl
      refine x_op hk rfl ?_
      refine op_store tab hk (t := 27) (v := .slice A199 ((l159 ++ ([x122.1] : List Int))).length c200) (b := bx9) (k := 0) (cs' := [.slice A199 ((l159 ++ ([x122.1] : List Int))).length c200]) rfl rfl rfl rfl rfl rfl f10 rfl rfl fun w203 o204 st205 f10_ => ?_
      replace f194 := f194.st st205 (by decide)
      replace f201 := f201.st st205 (by decide)
      replace f5 := f5.st st205 (by decide)
      replace f900000 := f900000.st st205 (by decide)
      replace f900019 := f900019.st st205 (by decide)
      replace fxr := fxr.st st205 (by decide)
      replace hs := hs.locB st205 rfl hbB
      replace f10 := f10_
      refine wpListIn_nil ?_
      refine blk_n ?_
      have hq206 := hs.closeB hoi hbB rfl (fun l_ => if l_ = 2 then 2 else if l_ = 3 then 3 else if l_ = 20 then 20 else 0)
      exact ⟨_, hq206, fxr.now, ⟨A199, c200, (l159 ++ ([x122.1] : List Int)), (hsO.loc0 hq206 (by decide)), (hs.closeM_ft (o := o125) (ρ := (fun l_ => if l_ = 2 then 2 else if l_ = 3 then 3 else if l_ = 20 then 20 else 0)) f10 (lab_atB hoi rfl) rfl), (hs.closeM_ft (o := o125) (ρ := (fun l_ => if l_ = 2 then 2 else if l_ = 3 then 3 else if l_ = 20 then 20 else 0)) f201 (lab_atB hoi rfl) rfl), (hs.closeM_ft (o := o125) (ρ := (fun l_ => if l_ = 2 then 2 else if l_ = 3 then 3 else if l_ = 20 then 20 else 0)) f5 (lab_atB hoi rfl) rfl), (hs.closeM_ft (o := o125) (ρ := (fun l_ => if l_ = 2 then 2 else if l_ = 3 then 3 else if l_ = 20 then 20 else 0)) f900000 (lab_atB hoi rfl) rfl), (hs.closeM_ft (o := o125) (ρ := (fun l_ => if l_ = 2 then 2 else if l_ = 3 then 3 else if l_ = 20 then 20 else 0)) f900019 (lab_atB hoi rfl) rfl), hc202, (hlp128 ▸ H)⟩⟩
  · rintro ds184 w183 o156 a hk fxm ⟨A157, c158, l159, hs, f10, f160, f5, f900000, f900019, hc161, H⟩
    rw [parts_Slot_which_r2] at H
    refine blk_n ?_
    refine then_n ?_
    exact ⟨(fun b_ => (fun l_ => if l_ = 3 then 14 else if l_ = 20 then 13 else l_) (o156 b_)), ds184, A157, c158, l159, (by exact Kn.pick (ks := [5]) hk rfl), (hs.relab0 (fun l_ => if l_ = 3 then 14 else if l_ = 20 then 13 else l_) rfl), (f10.relab (fun l_ => if l_ = 3 then 14 else if l_ = 20 then 13 else l_) rfl), (f160.relab (fun l_ => if l_ = 3 then 14 else if l_ = 20 then 13 else l_) rfl), (f900000.relab (fun l_ => if l_ = 3 then 14 else if l_ = 20 then 13 else l_) rfl), (f900019.relab (fun l_ => if l_ = 3 then 14 else if l_ = 20 then 13 else l_) rfl), (fxm.relab (fun l_ => if l_ = 3 then 14 else if l_ = 20 then 13 else l_) rfl), hc161, H⟩
  · exact fun _ _ _ _ _ _ _ h_ => h_.elim

/-! (*tidewrack/parts.Slot).Lacks -/
theorem parts_Slot_Lacks_calls (K : Nat) (bp0 : Nat) (Ap0_0 : Option Addr) (cp0_0 : Nat) (p0 : T29) (w : World) (o : Nat → Nat) (Lp0 : Nat) (hp0 : Ft (Bx bp0 30 [.int .i64 p0.key, .int .i64 p0.count, mv Ap0_0, .int .i64 p0.bytes]) w o Lp0) (Lp0_0 : Nat) (hp0_0 : Ft (MpF encStr false Ap0_0 p0.parts) w o Lp0_0) (hcp0_0 : (p0.parts).length ≤ cp0_0)  (R0 : Nat) (r : List Int) (H : parts_Slot_Lacks K p0 = some r) :
    Calls Try.prog 13 #[.pointer (some ⟨bp0, 0, none⟩)] w (Ret fun v_ w' => ∃ o' : Nat → Nat, ∃ A0 : Option Addr, ∃ c0 : Nat, v_ = .slice A0 (r).length c0 ∧ St [] w o w' o' ∧ Ft (Own (encInt .i64) 3 (.slice A0 (r).length c0) r) w' o' R0 ∧ (r).length ≤ c0) := by
  refine x_enter (vs := [.pointer (some ⟨bp0, 0, none⟩)]) Try.func13 rfl rfl rfl fun a hk => ?_
  obtain ⟨o0, hs, h0⟩ := St.start w o
  have f900000 := h0 _ _ hp0_0
  have f900019 := h0 _ _ hp0
  clear h0
  rw [parts_Slot_Lacks] at H
  refine x_seq ?_
  refine wpIn_region_lit ?_
  refine x_run tab hk (k := 1) (lv := []) (ks := [0]) (e' := [(0, .pointer (some ⟨bp0, 0, none⟩))]) rfl trivial fun a hk => ?_
  refine wpListIn_nil ?_
  refine then_n ?_
  refine x_seq ?_
  refine wpIn_region_lit ?_
  refine x_run tab hk (k := 1) (lv := []) (ks := [3]) (e' := [(3, .pointer (some ⟨bp0, 0, none⟩))]) rfl trivial fun a hk => ?_
  refine x_op hk rfl ?_
  obtain ⟨t4, hc5, H⟩ := bindS H
  refine op_call hk ent_23 (vs := [.pointer (some ⟨bp0, 0, none⟩), .bool false]) rfl (parts_Slot_which_calls K bp0 Ap0_0 cp0_0 p0 false _ o0 0 f900019 _ f900000 hcp0_0 1  _ hc5) ?_
  rintro _ w6 ⟨o7, A9, c10, rfl, st8, f11, hc12⟩
  replace f900000 := f900000.st st8 (by decide)
  replace f900019 := f900019.st st8 (by decide)
  replace hs := hs.loc0 st8 (by decide)
  have hk := hk.put 4 (.slice A9 (t4).length c10) rfl
  refine x_run tab hk (k := 1) (lv := []) (ks := [2]) (e' := [(2, .slice A9 (t4).length c10)]) rfl trivial fun a hk => ?_
  refine wpListIn_nil ?_
  refine then_n ?_
  refine wpIn_ret ?_
  obtain rfl := Option.some.inj H
  exact x_retG hk (rs := [.tmp 2]) (vs := [.slice A9 (t4).length c10]) rfl ⟨rfl, trivial⟩ ⟨fun b_ => if b_ < w.heap.size then o b_ else (fun _ => R0) (o7 b_), A9, c10, rfl, hs.close0 o (fun _ => R0), hs.close_ft (o := o) (ρ := fun _ => R0) f11 (by decide) rfl, hc12⟩

/-! (*tidewrack/parts.Slot).Bytes -/
theorem parts_Slot_Bytes_calls (bp0 : Nat) (Ap0_0 : Option Addr) (cp0_0 : Nat) (p0 : T29) (w : World) (o : Nat → Nat) (Lp0 : Nat) (hp0 : Ft (Bx bp0 30 [.int .i64 p0.key, .int .i64 p0.count, mv Ap0_0, .int .i64 p0.bytes]) w o Lp0) (Lp0_0 : Nat) (hp0_0 : Ft (MpF encStr false Ap0_0 p0.parts) w o Lp0_0) (hcp0_0 : (p0.parts).length ≤ cp0_0)  (r : Int) (H : parts_Slot_Bytes p0 = some r) :
    Calls Try.prog 14 #[.pointer (some ⟨bp0, 0, none⟩)] w (Ret fun v_ w' => ∃ o' : Nat → Nat, v_ = .int .i64 r ∧ St [] w o w' o') := by
  refine x_enter (vs := [.pointer (some ⟨bp0, 0, none⟩)]) Try.func14 rfl rfl rfl fun a hk => ?_
  obtain ⟨o0, hs, h0⟩ := St.start w o
  have f900000 := h0 _ _ hp0_0
  have f900019 := h0 _ _ hp0
  clear h0
  rw [parts_Slot_Bytes] at H
  refine x_seq ?_
  refine wpIn_region_lit ?_
  refine x_run tab hk (k := 1) (lv := []) (ks := [0]) (e' := [(0, .pointer (some ⟨bp0, 0, none⟩))]) rfl trivial fun a hk => ?_
  refine wpListIn_nil ?_
  refine then_n ?_
  refine x_seq ?_
  refine wpIn_region_lit ?_
  refine x_run tab hk (k := 5) (lv := [.int .i64 p0.bytes]) (ks := [2]) (e' := [(2, .int .i64 p0.bytes)]) rfl ⟨(load1 tab rfl ((Bx.cell f900019.now 3).trans rfl)), trivial⟩ fun a hk => ?_
  refine wpListIn_nil ?_
  refine then_n ?_
  refine wpIn_ret ?_
  obtain rfl := Option.some.inj H
  exact x_retG hk (rs := [.tmp 2]) (vs := [.int .i64 p0.bytes]) rfl ⟨rfl, trivial⟩ ⟨fun b_ => if b_ < w.heap.size then o b_ else (fun _ => 0) (o0 b_), rfl, hs.close0 o (fun _ => 0)⟩

/-! tidewrack/tidewracklaw04.PartsBack -/
theorem tidewracklaw04_PartsBack_calls (K : Nat) (p0 : ByteArray) (p1 : Int) (Ap2 : Option Addr) (cp2 : Nat) (p2 : List Int) (w : World) (o : Nat → Nat) (Lp2 : Nat) (hp2 : Ft (RdC (encInt .i64) Ap2 p2) w o Lp2) (hcp2 : (p2).length ≤ cp2)  (r : Bool) (H : tidewracklaw04_PartsBack K p0 p1 p2 = some r) :
    Calls Try.prog 5 #[.string p0, .int .i64 p1, .slice Ap2 (p2).length cp2] w (Ret fun v_ w' => ∃ o' : Nat → Nat, v_ = .bool r ∧ St [] w o w' o') := by
  refine x_enter (vs := [.string p0, .int .i64 p1, .slice Ap2 (p2).length cp2]) Try.func5 rfl rfl rfl fun a hk => ?_
  obtain ⟨o0, hs, h0⟩ := St.start w o
  have f900040 := h0 _ _ hp2
  clear h0
  rw [tidewracklaw04_PartsBack] at H
  refine x_seq ?_
  refine wpIn_region_lit ?_
  refine x_run tab hk (k := 1) (lv := []) (ks := [0, 1, 2]) (e' := [(0, .string p0), (1, .int .i64 p1), (2, .slice Ap2 (p2).length cp2)]) rfl trivial fun a hk => ?_
  refine wpListIn_nil ?_
  refine then_n ?_
  refine x_seq ?_
  refine x_seq ?_
  refine wpIn_region_lit ?_
  refine x_op hk rfl ?_
  obtain ⟨t4, hc5, H⟩ := bindS H
  refine op_call hk ent_7 (vs := []) rfl (tidewracklaw04_awake_calls K  _ o0    _ hc5) ?_
  rintro _ w6 ⟨o7, rfl, st8⟩
  replace f900040 := f900040.st st8 (by decide)
  replace hs := hs.loc0 st8 (by decide)
  have hk := hk.put 15 (.bool t4) rfl
  refine x_run tab hk (k := 1) (lv := []) (ks := [0, 1, 2, 16]) (e' := [(0, .string p0), (1, .int .i64 p1), (2, .slice Ap2 (p2).length cp2), (16, .bool (!t4))]) rfl trivial fun a hk => ?_
  refine wpListIn_nil ?_
  refine then_n ?_
  cases b9 : (!t4)
  · rw [b9] at hk H
    replace H := bifF H
    refine x_if hk (b := false) rfl ?_
    refine (show Code.wpIn _ _ _ _ _ _ _ from ?_)
    refine wpIn_skip ?_
    refine then_n ?_
    refine x_seq ?_
    refine wpIn_region_lit ?_
    refine x_run tab hk (k := 1) (lv := []) (ks := [1, 2, 17]) (e' := [(1, .int .i64 p1), (2, .slice Ap2 (p2).length cp2), (17, .string p0)]) rfl trivial fun a hk => ?_
    refine x_op hk rfl ?_
    obtain ⟨t13, hc14, H⟩ := bindS H
    refine op_call hk ent_8 (vs := [.string p0, .int .i64 300]) rfl (tidewracklaw01_Cut_calls p0 300 _ o7    _ hc14) ?_
    rintro _ w15 ⟨o16, rfl, st17⟩
    replace f900040 := f900040.st st17 (by decide)
    replace hs := hs.loc0 st17 (by decide)
    have hk := hk.put 18 (.string t13) rfl
    refine x_run tab hk (k := 1) (lv := []) (ks := [0, 1, 2]) (e' := [(0, .string t13), (1, .int .i64 p1), (2, .slice Ap2 (p2).length cp2)]) rfl trivial fun a hk => ?_
    refine wpListIn_nil ?_
    refine then_n ?_
    refine x_seq ?_
    refine wpIn_region_lit ?_
    refine x_run tab hk (k := 2) (lv := []) (ks := [0, 2, 19, 20]) (e' := [(0, .string t13), (2, .slice Ap2 (p2).length cp2), (19, .string t13), (20, .int .i64 p1)]) rfl trivial fun a hk => ?_
    refine x_op hk rfl ?_
    obtain ⟨t21, hc22, H⟩ := bindS H
    refine op_call hk ent_9 (vs := [.string t13, .int .i64 p1]) rfl (parts_Split_calls K t13 p1 _ o16  1  _ hc22) ?_
    rintro _ w23 ⟨o24, A26, c27, rfl, st25, f28, hc29⟩
    replace f900040 := f900040.st st25 (by decide)
    replace hs := hs.loc0 st25 (by decide)
    have hk := hk.put 21 (.slice A26 (t21).length c27) rfl
    refine x_run tab hk (k := 1) (lv := []) (ks := [0, 2, 7]) (e' := [(0, .string t13), (2, .slice Ap2 (p2).length cp2), (7, .slice A26 (t21).length c27)]) rfl trivial fun a hk => ?_
    refine wpListIn_nil ?_
    refine then_n ?_
    refine x_seq ?_
    refine x_seq ?_
    refine wpIn_region_lit ?_
    refine x_run tab hk (k := 3) (lv := []) (ks := [0, 2, 7, 24]) (e' := [(0, .string t13), (2, .slice Ap2 (p2).length cp2), (7, .slice A26 (t21).length c27), (24, .bool (((t21).length : Int) == (0 : Int)))]) rfl trivial fun a hk => ?_
    refine wpListIn_nil ?_
    refine then_n ?_
    cases b30 : (((t21).length : Int) == (0 : Int))
    · rw [b30] at hk H
      replace H := bifF H
      refine x_if hk (b := false) rfl ?_
      refine (show Code.wpIn _ _ _ _ _ _ _ from ?_)
      refine wpIn_skip ?_
      refine then_n ?_
      refine x_seq ?_
      refine wpIn_region_lit ?_
      refine x_op hk rfl ?_
      refine op_alloc (o := o24) tab (t := 30) (cs := [.int .i64 0, .int .i64 0, mv none, .int .i64 0]) rfl rfl 2 fun bx34 w31 o32 st33 f35 => ?_
      replace f28 := f28.st st33 (by decide)
      replace f900040 := f900040.st st33 (by decide)
      replace hs := hs.loc0 st33 (by decide)
      have hk := hk.put 8 (.pointer (some ⟨bx34, 0, none⟩)) rfl
      refine wpListIn_nil ?_
      refine then_n ?_
      refine x_mid (fun a_ w_ => ∃ o150 : Nat → Nat, ∃ x151 : Int, ∃ x152 : Int, ∃ A153 : Option Addr, ∃ c154 : Nat, ∃ l155 : M ByteArray, ∃ x158 : Int, Kn 99 a_ [(0, .string t13), (7, .slice A26 (t21).length c27), (8, .pointer (some ⟨bx34, 0, none⟩))] ∧ St [] w (fun _ => 0) w_ o150 ∧ Ft (MpF encStr false A153 l155) w_ o150 19 ∧ Ft (Own encStr 9 (.slice A26 (t21).length c27) t21) w_ o150 18 ∧ Ft (Bx bx34 30 [.int .i64 x151, .int .i64 x152, mv A153, .int .i64 x158]) w_ o150 20 ∧ (l155).length ≤ c154 ∧ tidewracklaw04_PartsBack_j1 K t13 t21 x151 x152 l155 x158 = some r) ?_ ?_
      rotate_left
      · rintro a w159 ⟨o150, x151, x152, A153, c154, l155, x158, hk, hs, f156, f28, f35, hc157, H⟩
        rw [tidewracklaw04_PartsBack_j1] at H
        refine x_mid (fun a_ w_ => ∃ o242 : Nat → Nat, ∃ x243 : Int, ∃ x244 : Int, ∃ A245 : Option Addr, ∃ c246 : Nat, ∃ l247 : M ByteArray, ∃ x250 : Int, Kn 99 a_ [(0, .string t13), (8, .pointer (some ⟨bx34, 0, none⟩))] ∧ St [] w (fun _ => 0) w_ o242 ∧ Ft (MpF encStr false A245 l247) w_ o242 28 ∧ Ft (Bx bx34 30 [.int .i64 x243, .int .i64 x244, mv A245, .int .i64 x250]) w_ o242 29 ∧ (l247).length ≤ c246 ∧ tidewracklaw04_PartsBack_j2 K t13 x243 x244 l247 x250 = some r) ?_ ?_
        rotate_left
        · rintro a w251 ⟨o242, x243, x244, A245, c246, l247, x250, hk, hs, f248, f35, hc249, H⟩
          rw [tidewracklaw04_PartsBack_j2] at H
          refine x_seq ?_
          refine wpIn_region_lit ?_
          refine x_op hk rfl ?_
          obtain ⟨t255, hc256, H⟩ := bindS H
          refine op_call hk ent_12 (vs := [.pointer (some ⟨bx34, 0, none⟩)]) rfl (parts_Slot_Whole_calls K bx34 A245 c246 (⟨x243, x244, l247, x250⟩ : T29) _ o242 29 f35 _ f248 hc249   _ hc256) ?_
          rintro _ w257 ⟨o258, rfl, st259⟩
          replace f248 := f248.st st259 (by decide)
          replace f35 := f35.st st259 (by decide)
          replace hs := hs.loc0 st259 (by decide)
          have hk := hk.put 67 (.tuple #[.string t255.1, .bool t255.2]) rfl
          refine x_run tab hk (k := 5) (lv := []) (ks := [0, 8, 13, 14]) (e' := [(0, .string t13), (8, .pointer (some ⟨bx34, 0, none⟩)), (13, .string t255.1), (14, .bool t255.2)]) rfl trivial fun a hk => ?_
          refine wpListIn_nil ?_
          refine then_n ?_
          refine x_seq ?_
          refine wpIn_region_lit ?_
          refine x_run tab hk (k := 2) (lv := []) (ks := [0, 8, 13, 71]) (e' := [(0, .string t13), (8, .pointer (some ⟨bx34, 0, none⟩)), (13, .string t255.1), (71, .bool t255.2)]) rfl trivial fun a hk => ?_
          cases b260 : t255.2
          · rw [b260] at hk H
            replace H := bifF H
            refine x_run tab hk (k := 14) (lv := []) (ks := [8, 81, 85]) (e' := [(8, .pointer (some ⟨bx34, 0, none⟩)), (81, .bool false), (85, undef)]) rfl trivial fun a hk => ?_
            refine x_run tab hk (k := 12) (lv := []) (ks := [95, 97]) (e' := [(95, .bool false), (97, undef)]) rfl trivial fun a hk => ?_
            refine x_run tab hk (k := 2) (lv := []) (ks := [6]) (e' := [(6, .bool false)]) rfl trivial fun a hk => ?_
            refine wpListIn_nil ?_
            refine then_n ?_
            refine wpIn_ret ?_
            obtain rfl := Option.some.inj H
            exact x_retG hk (rs := [.tmp 6]) (vs := [.bool false]) rfl ⟨rfl, trivial⟩ ⟨fun b_ => if b_ < w.heap.size then o b_ else (fun _ => 0) (o258 b_), rfl, hs.close0 o (fun _ => 0)⟩
          · rw [b260] at hk H
            replace H := bifT H
            refine x_run tab hk (k := 5) (lv := []) (ks := [0, 8, 76]) (e' := [(0, .string t13), (8, .pointer (some ⟨bx34, 0, none⟩)), (76, .bool (ByteArray.toList t255.1 == ByteArray.toList t13))]) rfl trivial fun a hk => ?_
            cases b261 : (ByteArray.toList t255.1 == ByteArray.toList t13)
            · rw [b261] at hk H
              replace H := bifF H
              refine x_run tab hk (k := 10) (lv := []) (ks := [8, 86]) (e' := [(8, .pointer (some ⟨bx34, 0, none⟩)), (86, .bool false)]) rfl trivial fun a hk => ?_
              refine x_run tab hk (k := 11) (lv := []) (ks := [95, 97]) (e' := [(95, .bool false), (97, undef)]) rfl trivial fun a hk => ?_
              refine x_run tab hk (k := 2) (lv := []) (ks := [6]) (e' := [(6, .bool false)]) rfl trivial fun a hk => ?_
              refine wpListIn_nil ?_
              refine then_n ?_
              refine wpIn_ret ?_
              obtain rfl := Option.some.inj H
              exact x_retG hk (rs := [.tmp 6]) (vs := [.bool false]) rfl ⟨rfl, trivial⟩ ⟨fun b_ => if b_ < w.heap.size then o b_ else (fun _ => 0) (o258 b_), rfl, hs.close0 o (fun _ => 0)⟩
            · rw [b261] at hk H
              replace H := bifT H
              refine x_op hk rfl ?_
              obtain ⟨t265, hc266, H⟩ := bindS H
              refine op_call hk ent_13 (vs := [.pointer (some ⟨bx34, 0, none⟩)]) rfl (parts_Slot_Lacks_calls K bx34 A245 c246 (⟨x243, x244, l247, x250⟩ : T29) _ o258 29 f35 _ f248 hc249 30  _ hc266) ?_
              rintro _ w267 ⟨o268, A270, c271, rfl, st269, f272, hc273⟩
              replace f248 := f248.st st269 (by decide)
              replace f35 := f35.st st269 (by decide)
              replace hs := hs.loc0 st269 (by decide)
              have hk := hk.put 77 (.slice A270 (t265).length c271) rfl
              refine x_run tab hk (k := 4) (lv := []) (ks := [0, 8, 81]) (e' := [(0, .string t13), (8, .pointer (some ⟨bx34, 0, none⟩)), (81, .bool (((t265).length : Int) == (0 : Int)))]) rfl trivial fun a hk => ?_
              cases b274 : (((t265).length : Int) == (0 : Int))
              · rw [b274] at hk H
                replace H := bifF H
                refine x_run tab hk (k := 12) (lv := []) (ks := [8, 91, 93]) (e' := [(8, .pointer (some ⟨bx34, 0, none⟩)), (91, .bool false), (93, undef)]) rfl trivial fun a hk => ?_
                refine x_run tab hk (k := 6) (lv := []) (ks := [6]) (e' := [(6, .bool false)]) rfl trivial fun a hk => ?_
                refine wpListIn_nil ?_
                refine then_n ?_
                refine wpIn_ret ?_
                obtain rfl := Option.some.inj H
                exact x_retG hk (rs := [.tmp 6]) (vs := [.bool false]) rfl ⟨rfl, trivial⟩ ⟨fun b_ => if b_ < w.heap.size then o b_ else (fun _ => 0) (o268 b_), rfl, hs.close0 o (fun _ => 0)⟩
              · rw [b274] at hk H
                replace H := bifT H
                refine x_op hk rfl ?_
                obtain ⟨t278, hc279, H⟩ := bindS H
                refine op_call hk ent_14 (vs := [.pointer (some ⟨bx34, 0, none⟩)]) rfl (parts_Slot_Bytes_calls bx34 A245 c246 (⟨x243, x244, l247, x250⟩ : T29) _ o268 29 f35 _ f248 hc249   _ hc279) ?_
                rintro _ w280 ⟨o281, rfl, st282⟩
                replace f248 := f248.st st282 (by decide)
                replace f35 := f35.st st282 (by decide)
                replace hs := hs.loc0 st282 (by decide)
                have hk := hk.put 82 (.int .i64 t278) rfl
                refine x_run tab hk (k := 5) (lv := []) (ks := [8, 87]) (e' := [(8, .pointer (some ⟨bx34, 0, none⟩)), (87, .bool (t278 == ((t13).size : Int)))]) rfl trivial fun a hk => ?_
                cases b283 : (t278 == ((t13).size : Int))
                · rw [b283] at hk H
                  replace H := bifF H
                  refine x_run tab hk (k := 10) (lv := []) (ks := [95, 97]) (e' := [(95, .bool false), (97, undef)]) rfl trivial fun a hk => ?_
                  refine x_run tab hk (k := 2) (lv := []) (ks := [6]) (e' := [(6, .bool false)]) rfl trivial fun a hk => ?_
                  refine wpListIn_nil ?_
                  refine then_n ?_
                  refine wpIn_ret ?_
                  obtain rfl := Option.some.inj H
                  exact x_retG hk (rs := [.tmp 6]) (vs := [.bool false]) rfl ⟨rfl, trivial⟩ ⟨fun b_ => if b_ < w.heap.size then o b_ else (fun _ => 0) (o281 b_), rfl, hs.close0 o (fun _ => 0)⟩
                · rw [b283] at hk H
                  replace H := bifT H
                  refine x_op hk rfl ?_
                  obtain ⟨t287, hc288, H⟩ := bindS H
                  refine op_call hk ent_11 (vs := [.pointer (some ⟨bx34, 0, none⟩), .int .i64 8, .int .i64 0, .int .i64 1, .string (⟨#[122]⟩ : ByteArray)]) rfl (parts_Slot_Put_calls bx34 A245 c246 (⟨x243, x244, l247, x250⟩ : T29) 8 0 1 (⟨#[122]⟩ : ByteArray) _ o281 29 f35 28 f248 hc249 (by decide)   _ hc288) ?_
                  rintro _ w289 ⟨o290, A293, c294, rfl, st291, f292, f295, hc296⟩
                  replace hs := hs.loc0 st291 (by decide)
                  have hk := hk.put 88 (.int .i64 t287.1) rfl
                  refine x_run tab hk (k := 3) (lv := []) (ks := [8, 91]) (e' := [(8, .pointer (some ⟨bx34, 0, none⟩)), (91, .bool (t287.1 == (8 : Int)))]) rfl trivial fun a hk => ?_
                  cases b297 : (t287.1 == (8 : Int))
                  · rw [b297] at hk H
                    replace H := bifF H
                    refine x_run tab hk (k := 8) (lv := []) (ks := [6]) (e' := [(6, .bool false)]) rfl trivial fun a hk => ?_
                    refine wpListIn_nil ?_
                    refine then_n ?_
                    refine wpIn_ret ?_
                    obtain rfl := Option.some.inj H
                    exact x_retG hk (rs := [.tmp 6]) (vs := [.bool false]) rfl ⟨rfl, trivial⟩ ⟨fun b_ => if b_ < w.heap.size then o b_ else (fun _ => 0) (o290 b_), rfl, hs.close0 o (fun _ => 0)⟩
                  · rw [b297] at hk H
                    replace H := bifT H
                    refine x_op hk rfl ?_
                    obtain ⟨t301, hc302, H⟩ := bindS H
                    refine op_call hk ent_11 (vs := [.pointer (some ⟨bx34, 0, none⟩), .int .i64 10, .int .i64 0, .int .i64 2, .string (⟨#[122]⟩ : ByteArray)]) rfl (parts_Slot_Put_calls bx34 A293 c294 t287.2 10 0 2 (⟨#[122]⟩ : ByteArray) _ o290 29 f292 28 f295 hc296 (by decide)   _ hc302) ?_
                    rintro _ w303 ⟨o304, A307, c308, rfl, st305, f306, f309, hc310⟩
                    replace hs := hs.loc0 st305 (by decide)
                    have hk := hk.put 92 (.int .i64 t301.1) rfl
                    refine x_run tab hk (k := 3) (lv := []) (ks := [8, 95]) (e' := [(8, .pointer (some ⟨bx34, 0, none⟩)), (95, .bool (t301.1 == (0 : Int)))]) rfl trivial fun a hk => ?_
                    cases b311 : (t301.1 == (0 : Int))
                    · rw [b311] at hk H
                      replace H := bifF H
                      refine x_run tab hk (k := 4) (lv := []) (ks := [6]) (e' := [(6, .bool false)]) rfl trivial fun a hk => ?_
                      refine wpListIn_nil ?_
                      refine then_n ?_
                      refine wpIn_ret ?_
                      obtain rfl := Option.some.inj H
                      exact x_retG hk (rs := [.tmp 6]) (vs := [.bool false]) rfl ⟨rfl, trivial⟩ ⟨fun b_ => if b_ < w.heap.size then o b_ else (fun _ => 0) (o304 b_), rfl, hs.close0 o (fun _ => 0)⟩
                    · rw [b311] at hk H
                      replace H := bifT H
                      refine x_op hk rfl ?_
                      obtain ⟨t315, hc316, H⟩ := bindS H
                      refine op_call hk ent_14 (vs := [.pointer (some ⟨bx34, 0, none⟩)]) rfl (parts_Slot_Bytes_calls bx34 A307 c308 t301.2 _ o304 29 f306 _ f309 hc310   _ hc316) ?_
                      rintro _ w317 ⟨o318, rfl, st319⟩
                      replace f306 := f306.st st319 (by decide)
                      replace f309 := f309.st st319 (by decide)
                      replace hs := hs.loc0 st319 (by decide)
                      have hk := hk.put 96 (.int .i64 t315) rfl
                      refine x_run tab hk (k := 3) (lv := []) (ks := [6]) (e' := [(6, .bool (t315 == (1 : Int)))]) rfl trivial fun a hk => ?_
                      refine wpListIn_nil ?_
                      refine then_n ?_
                      refine wpIn_ret ?_
                      obtain rfl := Option.some.inj H
                      exact x_retG hk (rs := [.tmp 6]) (vs := [.bool (t315 == (1 : Int))]) rfl ⟨rfl, trivial⟩ ⟨fun b_ => if b_ < w.heap.size then o b_ else (fun _ => 0) (o318 b_), rfl, hs.close0 o (fun _ => 0)⟩
        refine x_seq ?_
        refine wpIn_region_lit ?_
        refine x_run tab hk (k := 3) (lv := []) (ks := [0, 7, 8, 52, 53, 54]) (e' := [(0, .string t13), (7, .slice A26 (t21).length c27), (8, .pointer (some ⟨bx34, 0, none⟩)), (52, .slice A26 (t21).length c27), (53, .int .i64 ((t21).length : Int)), (54, .int .i64 0)]) rfl trivial fun a hk => ?_
        refine wpListIn_nil ?_
        refine then_n ?_
        refine wpIn_block ?_
        refine x_loop (fun j_ a_ w_ => ∃ o341 : Nat → Nat, ∃ x342 : Int, ∃ x343 : Int, ∃ A344 : Option Addr, ∃ c345 : Nat, ∃ l346 : M ByteArray, ∃ x349 : Int, ∃ x350 : Int, Kn 99 a_ [(0, .string t13), (7, .slice A26 (t21).length c27), (8, .pointer (some ⟨bx34, 0, none⟩)), (52, .slice A26 (t21).length c27), (53, .int .i64 ((t21).length : Int)), (54, .int .i64 x350)] ∧ St [] w (fun _ => 0) w_ o341 ∧ Ft (Own encStr 9 (.slice A26 (t21).length c27) t21) w_ o341 35 ∧ Ft (MpF encStr false A344 l346) w_ o341 36 ∧ Ft (Bx bx34 30 [.int .i64 x342, .int .i64 x343, mv A344, .int .i64 x349]) w_ o341 37 ∧ (l346).length ≤ c345 ∧ tidewracklaw04_PartsBack_l3 K t13 t21 j_ x342 x343 l346 x349 x350 = some r) (k := K) ⟨(fun b_ => (fun l_ => if l_ = 18 then 35 else if l_ = 19 then 36 else if l_ = 20 then 37 else l_) (o150 b_)), x151, x152, A153, c154, l155, x158, 0, (by exact Kn.pick (ks := [0, 7, 8, 52, 53, 54]) hk rfl), (hs.relab0 (fun l_ => if l_ = 18 then 35 else if l_ = 19 then 36 else if l_ = 20 then 37 else l_) rfl), (f28.relab (fun l_ => if l_ = 18 then 35 else if l_ = 19 then 36 else if l_ = 20 then 37 else l_) rfl), (f156.relab (fun l_ => if l_ = 18 then 35 else if l_ = 19 then 36 else if l_ = 20 then 37 else l_) rfl), (f35.relab (fun l_ => if l_ = 18 then 35 else if l_ = 19 then 36 else if l_ = 20 then 37 else l_) rfl), hc157, H⟩ (by rintro _ _ ⟨_, _, _, _, _, _, _, _, _, _, _, _, _, _, H_⟩; exact absurd (show (none : Option Bool) = some r from H_) (by simp)) ?_
        rintro k369 a w368 ⟨o341, x342, x343, A344, c345, l346, x349, x350, hk, hs, f28, f347, f35, hc348, H⟩
        rw [tidewracklaw04_PartsBack_l3] at H
        obtain ⟨lp370, hlp371⟩ : ∃ lp_, lp_ = tidewracklaw04_PartsBack_l3 K t13 t21 k369 := ⟨_, rfl⟩
        rw [← hlp371] at H
        refine x_seq ?_
        refine wpIn_region_lit ?_
        refine x_run tab hk (k := 1) (lv := []) (ks := [0, 7, 8, 52, 53, 54, 55]) (e' := [(0, .string t13), (7, .slice A26 (t21).length c27), (8, .pointer (some ⟨bx34, 0, none⟩)), (52, .slice A26 (t21).length c27), (53, .int .i64 ((t21).length : Int)), (54, .int .i64 x350), (55, .bool (decide (x350 < ((t21).length : Int))))]) rfl trivial fun a hk => ?_
        refine wpListIn_nil ?_
        refine then_n ?_
        refine x_seq ?_
        cases b372 : (decide (x350 < ((t21).length : Int)))
        · rw [b372] at hk H
          replace H := bifF H
          refine x_if hk (b := false) rfl ?_
          refine (show Code.wpIn _ _ _ _ _ _ _ from ?_)
          refine wpIn_exit ?_
          refine then_x ?_
          refine then_x ?_
          refine blk_x ?_
          refine then_n ?_
          exact ⟨(fun b_ => (fun l_ => if l_ = 36 then 28 else if l_ = 37 then 29 else l_) (o341 b_)), x342, x343, A344, c345, l346, x349, (by exact Kn.pick (ks := [0, 8]) hk rfl), (hs.relab0 (fun l_ => if l_ = 36 then 28 else if l_ = 37 then 29 else l_) rfl), (f347.relab (fun l_ => if l_ = 36 then 28 else if l_ = 37 then 29 else l_) rfl), (f35.relab (fun l_ => if l_ = 36 then 28 else if l_ = 37 then 29 else l_) rfl), hc348, H⟩
        · rw [b372] at hk H
          replace H := bifT H
          refine x_if hk (b := true) rfl ?_
          refine (show Code.wpIn _ _ _ _ _ _ _ from ?_)
          refine wpIn_skip ?_
          refine then_n ?_
          refine x_seq ?_
          refine wpIn_block ?_
          refine x_seq ?_
          refine wpIn_region_lit ?_
          obtain ⟨q373, H⟩ := ifS H
          obtain ⟨ad374, hAad374⟩ := RdC.addr (Own.rd f28.now) q373
          have hk_C := hk
          have f28_C := f28
          have f347_C := f347
          have f35_C := f35
          subst hAad374
          have hk := hk_C
          clear hk_C
          have f28 := f28_C
          clear f28_C
          have f347 := f347_C
          clear f347_C
          have f35 := f35_C
          clear f35_C
          refine x_run tab hk (k := 5) (lv := [.string (rdD (⟨#[]⟩ : ByteArray) t21 x350)]) (ks := [0, 7, 8, 11, 12, 52, 53, 54]) (e' := [(0, .string t13), (7, .slice (some ad374) (t21).length c27), (8, .pointer (some ⟨bx34, 0, none⟩)), (11, .int .i64 x350), (12, .string (rdD (⟨#[]⟩ : ByteArray) t21 x350)), (52, .slice (some ad374) (t21).length c27), (53, .int .i64 ((t21).length : Int)), (54, .int .i64 x350)]) rfl ⟨q373, (load1 tab rfl (RdC.at0 (E := encStr) (d := (⟨#[]⟩ : ByteArray)) (i := x350) (Own.rd f28.now) q373 rfl)), trivial⟩ fun a hk => ?_
          refine wpListIn_nil ?_
          refine then_n ?_
          refine x_seq ?_
          refine wpIn_region_lit ?_
          refine x_run tab hk (k := 4) (lv := []) (ks := [0, 7, 8, 52, 53, 54, 59, 61, 62]) (e' := [(0, .string t13), (7, .slice (some ad374) (t21).length c27), (8, .pointer (some ⟨bx34, 0, none⟩)), (52, .slice (some ad374) (t21).length c27), (53, .int .i64 ((t21).length : Int)), (54, .int .i64 x350), (59, .int .i64 x350), (61, .int .i64 ((t21).length : Int)), (62, .string (rdD (⟨#[]⟩ : ByteArray) t21 x350))]) rfl trivial fun a hk => ?_
          refine x_op hk rfl ?_
          obtain ⟨t378, hc379, H⟩ := bindS H
          refine op_call hk ent_11 (vs := [.pointer (some ⟨bx34, 0, none⟩), .int .i64 9, .int .i64 x350, .int .i64 ((t21).length : Int), .string (rdD (⟨#[]⟩ : ByteArray) t21 x350)]) rfl (parts_Slot_Put_calls bx34 A344 c345 (⟨x342, x343, l346, x349⟩ : T29) 9 x350 ((t21).length : Int) (rdD (⟨#[]⟩ : ByteArray) t21 x350) _ o341 37 f35 36 f347 hc348 (by decide)   _ hc379) ?_
          rintro _ w380 ⟨o381, A384, c385, rfl, st382, f383, f386, hc387⟩
          replace f28 := f28.st st382 (by decide)
          replace hs := hs.loc0 st382 (by decide)
          have hk := hk.put 63 (.int .i64 t378.1) rfl
          refine x_run tab hk (k := 1) (lv := []) (ks := [0, 7, 8, 52, 53, 54, 64]) (e' := [(0, .string t13), (7, .slice (some ad374) (t21).length c27), (8, .pointer (some ⟨bx34, 0, none⟩)), (52, .slice (some ad374) (t21).length c27), (53, .int .i64 ((t21).length : Int)), (54, .int .i64 x350), (64, .bool (t378.1 != (0 : Int)))]) rfl trivial fun a hk => ?_
          refine wpListIn_nil ?_
          refine then_n ?_
          cases b388 : (t378.1 != (0 : Int))
          · rw [b388] at hk H
            replace H := bifF H
            refine x_if hk (b := false) rfl ?_
            refine (show Code.wpIn _ _ _ _ _ _ _ from ?_)
            refine wpIn_skip ?_
            refine blk_n ?_
            refine then_n ?_
            refine wpIn_region_lit ?_
            refine x_run tab hk (k := 2) (lv := []) (ks := [0, 7, 8, 52, 53, 54]) (e' := [(0, .string t13), (7, .slice (some ad374) (t21).length c27), (8, .pointer (some ⟨bx34, 0, none⟩)), (52, .slice (some ad374) (t21).length c27), (53, .int .i64 ((t21).length : Int)), (54, .int .i64 (IntKind.wrap .i64 (x350 + 1)))]) rfl trivial fun a hk => ?_
            refine wpListIn_nil ?_
            refine then_n ?_
            exact ⟨k369, Nat.le_refl _, o381, t378.2.key, t378.2.count, A384, c385, t378.2.parts, t378.2.bytes, (IntKind.wrap .i64 (x350 + 1)), (by exact Kn.pick (ks := [0, 7, 8, 52, 53, 54]) hk rfl), hs, f28, f386, f383, hc387, (hlp371 ▸ H)⟩
          · rw [b388] at hk H
            replace H := bifT H
            refine x_if hk (b := true) rfl ?_
            refine (show Code.wpIn _ _ _ _ _ _ _ from ?_)
            refine x_seq ?_
            refine wpIn_region_lit ?_
            refine x_run tab hk (k := 1) (lv := []) (ks := [6]) (e' := [(6, .bool false)]) rfl trivial fun a hk => ?_
            refine wpListIn_nil ?_
            refine then_n ?_
            refine wpIn_ret ?_
            refine blk_r ?_
            refine then_r ?_
            refine then_r ?_
            refine blk_r ?_
            refine then_r ?_
            obtain rfl := Option.some.inj H
            exact x_retG hk (rs := [.tmp 6]) (vs := [.bool false]) rfl ⟨rfl, trivial⟩ ⟨fun b_ => if b_ < w.heap.size then o b_ else (fun _ => 0) (o381 b_), rfl, hs.close0 o (fun _ => 0)⟩
      refine x_seq ?_
      refine wpIn_region_lit ?_
      refine x_run tab hk (k := 1) (lv := []) (ks := [0, 2, 7, 8, 9]) (e' := [(0, .string t13), (2, .slice Ap2 (p2).length cp2), (7, .slice A26 (t21).length c27), (8, .pointer (some ⟨bx34, 0, none⟩)), (9, .int .i64 0)]) rfl trivial fun a hk => ?_
      refine wpListIn_nil ?_
      refine then_n ?_
      refine wpIn_block ?_
      refine x_loop (fun j_ a_ w_ => ∃ o420 : Nat → Nat, ∃ x421 : Int, ∃ x422 : Int, ∃ A423 : Option Addr, ∃ c424 : Nat, ∃ l425 : M ByteArray, ∃ x428 : Int, ∃ x429 : Int, Kn 99 a_ [(0, .string t13), (2, .slice Ap2 (p2).length cp2), (7, .slice A26 (t21).length c27), (8, .pointer (some ⟨bx34, 0, none⟩)), (9, .int .i64 x429)] ∧ St [] w (fun _ => 0) w_ o420 ∧ Ft (Own encStr 9 (.slice A26 (t21).length c27) t21) w_ o420 43 ∧ Ft (Bx bx34 30 [.int .i64 x421, .int .i64 x422, mv A423, .int .i64 x428]) w_ o420 45 ∧ Ft (MpF encStr false A423 l425) w_ o420 44 ∧ Ft (RdC (encInt .i64) Ap2 p2) w_ o420 0 ∧ (l425).length ≤ c424 ∧ tidewracklaw04_PartsBack_l4 K p2 t13 t21 j_ x421 x422 l425 x428 x429 = some r) (k := K) ⟨(fun b_ => (fun l_ => if l_ = 1 then 43 else if l_ = 2 then 45 else l_) (o32 b_)), 0, 0, none, 0, (M.nil : M ByteArray), 0, 0, (by exact Kn.pick (ks := [0, 2, 7, 8, 9]) hk rfl), (hs.relab0 (fun l_ => if l_ = 1 then 43 else if l_ = 2 then 45 else l_) rfl), (f28.relab (fun l_ => if l_ = 1 then 43 else if l_ = 2 then 45 else l_) rfl), (f35.relab (fun l_ => if l_ = 1 then 43 else if l_ = 2 then 45 else l_) rfl), (Ft.of_all (fun _ => MpF.nil _ _ _) _ _ _), (f900040.relab (fun l_ => if l_ = 1 then 43 else if l_ = 2 then 45 else l_) rfl), (Nat.le_refl _), H⟩ (by rintro _ _ ⟨_, _, _, _, _, _, _, _, _, _, _, _, _, _, _, H_⟩; exact absurd (show (none : Option Bool) = some r from H_) (by simp)) ?_
      rintro k459 a w458 ⟨o420, x421, x422, A423, c424, l425, x428, x429, hk, hs, f28, f35, f426, f900040, hc427, H⟩
      rw [tidewracklaw04_PartsBack_l4] at H
      obtain ⟨lp460, hlp461⟩ : ∃ lp_, lp_ = tidewracklaw04_PartsBack_l4 K p2 t13 t21 k459 := ⟨_, rfl⟩
      rw [← hlp461] at H
      refine x_mid (fun a_ w_ => ∃ o467 : Nat → Nat, Kn 99 a_ [(0, .string t13), (2, .slice Ap2 (p2).length cp2), (7, .slice A26 (t21).length c27), (8, .pointer (some ⟨bx34, 0, none⟩)), (9, .int .i64 x429)] ∧ St [] w (fun _ => 0) w_ o467 ∧ Ft (Own encStr 9 (.slice A26 (t21).length c27) t21) w_ o467 49 ∧ Ft (Bx bx34 30 [.int .i64 x421, .int .i64 x422, mv A423, .int .i64 x428]) w_ o467 51 ∧ Ft (MpF encStr false A423 l425) w_ o467 50 ∧ Ft (RdC (encInt .i64) Ap2 p2) w_ o467 0 ∧ tidewracklaw04_PartsBack_j5 p2 t21 x421 x422 l425 x428 x429 lp460 = some r) ?_ ?_
      rotate_left
      · rintro a w468 ⟨o467, hk, hs, f28, f35, f426, f900040, H⟩
        rw [tidewracklaw04_PartsBack_j5] at H
        refine x_seq ?_
        refine wpIn_block ?_
        refine x_seq ?_
        refine wpIn_region_lit ?_
        obtain ⟨q469, H⟩ := ifS H
        obtain ⟨ad470, hAad470⟩ := RdC.addr f900040.now q469
        have hk_C := hk
        have f28_C := f28
        have f35_C := f35
        have f426_C := f426
        have f900040_C := f900040
        subst hAad470
        have hk := hk_C
        clear hk_C
        have f28 := f28_C
        clear f28_C
        have f35 := f35_C
        clear f35_C
        have f426 := f426_C
        clear f426_C
        have f900040 := f900040_C
        clear f900040_C
        obtain ⟨q471, H⟩ := ifS H
        refine x_run tab hk (k := 9) (lv := [.int .i64 (rdD 0 p2 x429)]) (ks := [0, 2, 7, 8, 9, 10]) (e' := [(0, .string t13), (2, .slice (some ad470) (p2).length cp2), (7, .slice A26 (t21).length c27), (8, .pointer (some ⟨bx34, 0, none⟩)), (9, .int .i64 x429), (10, .int .i64 (Int.tmod (bits .and .i64 (rdD 0 p2 x429) 65535) ((t21).length : Int)))]) rfl ⟨q469, (load1 tab rfl (RdC.at0 (E := (encInt .i64)) (d := 0) (i := x429) f900040.now q469 rfl)), q471, trivial⟩ fun a hk => ?_
        refine wpListIn_nil ?_
        refine then_n ?_
        refine x_seq ?_
        refine wpIn_region_lit ?_
        obtain ⟨q472, H⟩ := ifS H
        obtain ⟨ad473, hAad473⟩ := RdC.addr (Own.rd f28.now) q472
        have hk_C := hk
        have f28_C := f28
        have f35_C := f35
        have f426_C := f426
        have f900040_C := f900040
        subst hAad473
        have hk := hk_C
        clear hk_C
        have f28 := f28_C
        clear f28_C
        have f35 := f35_C
        clear f35_C
        have f426 := f426_C
        clear f426_C
        have f900040 := f900040_C
        clear f900040_C
        refine x_run tab hk (k := 7) (lv := [.string (rdD (⟨#[]⟩ : ByteArray) t21 (Int.tmod (bits .and .i64 (rdD 0 p2 x429) 65535) ((t21).length : Int)))]) (ks := [0, 2, 7, 8, 9, 43, 45, 49]) (e' := [(0, .string t13), (2, .slice (some ad470) (p2).length cp2), (7, .slice (some ad473) (t21).length c27), (8, .pointer (some ⟨bx34, 0, none⟩)), (9, .int .i64 x429), (43, .int .i64 (Int.tmod (bits .and .i64 (rdD 0 p2 x429) 65535) ((t21).length : Int))), (45, .int .i64 ((t21).length : Int)), (49, .string (rdD (⟨#[]⟩ : ByteArray) t21 (Int.tmod (bits .and .i64 (rdD 0 p2 x429) 65535) ((t21).length : Int))))]) rfl ⟨q472, (load1 tab rfl (RdC.at0 (E := encStr) (d := (⟨#[]⟩ : ByteArray)) (i := (Int.tmod (bits .and .i64 (rdD 0 p2 x429) 65535) ((t21).length : Int))) (Own.rd f28.now) q472 rfl)), trivial⟩ fun a hk => ?_
        refine x_op hk rfl ?_
        obtain ⟨t477, hc478, H⟩ := bindS H
        refine op_call hk ent_11 (vs := [.pointer (some ⟨bx34, 0, none⟩), .int .i64 9, .int .i64 (Int.tmod (bits .and .i64 (rdD 0 p2 x429) 65535) ((t21).length : Int)), .int .i64 ((t21).length : Int), .string (rdD (⟨#[]⟩ : ByteArray) t21 (Int.tmod (bits .and .i64 (rdD 0 p2 x429) 65535) ((t21).length : Int)))]) rfl (parts_Slot_Put_calls bx34 A423 c424 (⟨x421, x422, l425, x428⟩ : T29) 9 (Int.tmod (bits .and .i64 (rdD 0 p2 x429) 65535) ((t21).length : Int)) ((t21).length : Int) (rdD (⟨#[]⟩ : ByteArray) t21 (Int.tmod (bits .and .i64 (rdD 0 p2 x429) 65535) ((t21).length : Int))) _ o467 51 f35 50 f426 hc427 (by decide)   _ hc478) ?_
        rintro _ w479 ⟨o480, A483, c484, rfl, st481, f482, f485, hc486⟩
        replace f28 := f28.st st481 (by decide)
        replace f900040 := f900040.st st481 (by decide)
        replace hs := hs.loc0 st481 (by decide)
        have hk := hk.put 50 (.int .i64 t477.1) rfl
        refine x_run tab hk (k := 1) (lv := []) (ks := [0, 2, 7, 8, 9, 51]) (e' := [(0, .string t13), (2, .slice (some ad470) (p2).length cp2), (7, .slice (some ad473) (t21).length c27), (8, .pointer (some ⟨bx34, 0, none⟩)), (9, .int .i64 x429), (51, .bool (t477.1 != (0 : Int)))]) rfl trivial fun a hk => ?_
        refine wpListIn_nil ?_
        refine then_n ?_
        cases b487 : (t477.1 != (0 : Int))
        · rw [b487] at hk H
          replace H := bifF H
          refine x_if hk (b := false) rfl ?_
          refine (show Code.wpIn _ _ _ _ _ _ _ from ?_)
          refine wpIn_skip ?_
          refine blk_n ?_
          refine then_n ?_
          refine wpIn_region_lit ?_
          refine x_run tab hk (k := 3) (lv := []) (ks := [0, 2, 7, 8, 9]) (e' := [(0, .string t13), (2, .slice (some ad470) (p2).length cp2), (7, .slice (some ad473) (t21).length c27), (8, .pointer (some ⟨bx34, 0, none⟩)), (9, .int .i64 (IntKind.wrap .i64 (x429 + 1)))]) rfl trivial fun a hk => ?_
          refine wpListIn_nil ?_
          refine then_n ?_
          exact ⟨k459, Nat.le_refl _, (fun b_ => (fun l_ => if l_ = 49 then 43 else if l_ = 50 then 44 else if l_ = 51 then 45 else l_) (o480 b_)), t477.2.key, t477.2.count, A483, c484, t477.2.parts, t477.2.bytes, (IntKind.wrap .i64 (x429 + 1)), (by exact Kn.pick (ks := [0, 2, 7, 8, 9]) hk rfl), (hs.relab0 (fun l_ => if l_ = 49 then 43 else if l_ = 50 then 44 else if l_ = 51 then 45 else l_) rfl), (f28.relab (fun l_ => if l_ = 49 then 43 else if l_ = 50 then 44 else if l_ = 51 then 45 else l_) rfl), (f482.relab (fun l_ => if l_ = 49 then 43 else if l_ = 50 then 44 else if l_ = 51 then 45 else l_) rfl), (f485.relab (fun l_ => if l_ = 49 then 43 else if l_ = 50 then 44 else if l_ = 51 then 45 else l_) rfl), (f900040.relab (fun l_ => if l_ = 49 then 43 else if l_ = 50 then 44 else if l_ = 51 then 45 else l_) rfl), hc486, (hlp461 ▸ H)⟩
        · rw [b487] at hk H
          replace H := bifT H
          refine x_if hk (b := true) rfl ?_
          refine (show Code.wpIn _ _ _ _ _ _ _ from ?_)
          refine x_seq ?_
          refine wpIn_region_lit ?_
          refine x_run tab hk (k := 1) (lv := []) (ks := [6]) (e' := [(6, .bool false)]) rfl trivial fun a hk => ?_
          refine wpListIn_nil ?_
          refine then_n ?_
          refine wpIn_ret ?_
          refine blk_r ?_
          refine then_r ?_
          refine then_r ?_
          refine blk_r ?_
          refine then_r ?_
          obtain rfl := Option.some.inj H
          exact x_retG hk (rs := [.tmp 6]) (vs := [.bool false]) rfl ⟨rfl, trivial⟩ ⟨fun b_ => if b_ < w.heap.size then o b_ else (fun _ => 0) (o480 b_), rfl, hs.close0 o (fun _ => 0)⟩
      refine x_seq ?_
      refine wpIn_region_lit ?_
      refine x_run tab hk (k := 5) (lv := []) (ks := [0, 2, 7, 8, 9, 29]) (e' := [(0, .string t13), (2, .slice Ap2 (p2).length cp2), (7, .slice A26 (t21).length c27), (8, .pointer (some ⟨bx34, 0, none⟩)), (9, .int .i64 x429), (29, .bool (decide (x429 < ((p2).length : Int))))]) rfl trivial fun a hk => ?_
      cases b488 : (decide (x429 < ((p2).length : Int)))
      · rw [b488] at hk H
        replace H := bifF H
        refine x_run tab hk (k := 3) (lv := []) (ks := [0, 2, 7, 8, 9, 32]) (e' := [(0, .string t13), (2, .slice Ap2 (p2).length cp2), (7, .slice A26 (t21).length c27), (8, .pointer (some ⟨bx34, 0, none⟩)), (9, .int .i64 x429), (32, .bool false)]) rfl trivial fun a hk => ?_
        refine wpListIn_nil ?_
        refine then_n ?_
        refine x_if hk (b := false) rfl ?_
        refine (show Code.wpIn _ _ _ _ _ _ _ from ?_)
        refine wpIn_exit ?_
        refine then_x ?_
        refine then_x ?_
        refine blk_x ?_
        refine then_n ?_
        exact ⟨(fun b_ => (fun l_ => if l_ = 43 then 18 else if l_ = 44 then 19 else if l_ = 45 then 20 else l_) (o420 b_)), x421, x422, A423, c424, l425, x428, (by exact Kn.pick (ks := [0, 7, 8]) hk rfl), (hs.relab0 (fun l_ => if l_ = 43 then 18 else if l_ = 44 then 19 else if l_ = 45 then 20 else l_) rfl), (f426.relab (fun l_ => if l_ = 43 then 18 else if l_ = 44 then 19 else if l_ = 45 then 20 else l_) rfl), (f28.relab (fun l_ => if l_ = 43 then 18 else if l_ = 44 then 19 else if l_ = 45 then 20 else l_) rfl), (f35.relab (fun l_ => if l_ = 43 then 18 else if l_ = 44 then 19 else if l_ = 45 then 20 else l_) rfl), hc427, H⟩
      · rw [b488] at hk H
        replace H := bifT H
        refine x_run tab hk (k := 3) (lv := []) (ks := [0, 2, 7, 8, 9, 32]) (e' := [(0, .string t13), (2, .slice Ap2 (p2).length cp2), (7, .slice A26 (t21).length c27), (8, .pointer (some ⟨bx34, 0, none⟩)), (9, .int .i64 x429), (32, .bool (decide (x429 < (40 : Int))))]) rfl trivial fun a hk => ?_
        refine wpListIn_nil ?_
        refine then_n ?_
        cases b489 : (decide (x429 < (40 : Int)))
        · rw [b489] at hk H
          replace H := bifF H
          refine x_if hk (b := false) rfl ?_
          refine (show Code.wpIn _ _ _ _ _ _ _ from ?_)
          refine wpIn_exit ?_
          refine then_x ?_
          refine then_x ?_
          refine blk_x ?_
          refine then_n ?_
          exact ⟨(fun b_ => (fun l_ => if l_ = 43 then 18 else if l_ = 44 then 19 else if l_ = 45 then 20 else l_) (o420 b_)), x421, x422, A423, c424, l425, x428, (by exact Kn.pick (ks := [0, 7, 8]) hk rfl), (hs.relab0 (fun l_ => if l_ = 43 then 18 else if l_ = 44 then 19 else if l_ = 45 then 20 else l_) rfl), (f426.relab (fun l_ => if l_ = 43 then 18 else if l_ = 44 then 19 else if l_ = 45 then 20 else l_) rfl), (f28.relab (fun l_ => if l_ = 43 then 18 else if l_ = 44 then 19 else if l_ = 45 then 20 else l_) rfl), (f35.relab (fun l_ => if l_ = 43 then 18 else if l_ = 44 then 19 else if l_ = 45 then 20 else l_) rfl), hc427, H⟩
        · rw [b489] at hk H
          replace H := bifT H
          refine x_if hk (b := true) rfl ?_
          refine (show Code.wpIn _ _ _ _ _ _ _ from ?_)
          refine wpIn_skip ?_
          refine then_n ?_
          exact ⟨(fun b_ => (fun l_ => if l_ = 43 then 49 else if l_ = 44 then 50 else if l_ = 45 then 51 else l_) (o420 b_)), (by exact Kn.pick (ks := [0, 2, 7, 8, 9]) hk rfl), (hs.relab0 (fun l_ => if l_ = 43 then 49 else if l_ = 44 then 50 else if l_ = 45 then 51 else l_) rfl), (f28.relab (fun l_ => if l_ = 43 then 49 else if l_ = 44 then 50 else if l_ = 45 then 51 else l_) rfl), (f35.relab (fun l_ => if l_ = 43 then 49 else if l_ = 44 then 50 else if l_ = 45 then 51 else l_) rfl), (f426.relab (fun l_ => if l_ = 43 then 49 else if l_ = 44 then 50 else if l_ = 45 then 51 else l_) rfl), (f900040.relab (fun l_ => if l_ = 43 then 49 else if l_ = 44 then 50 else if l_ = 45 then 51 else l_) rfl), H⟩
    · rw [b30] at hk H
      replace H := bifT H
      refine x_if hk (b := true) rfl ?_
      refine (show Code.wpIn _ _ _ _ _ _ _ from ?_)
      refine x_seq ?_
      refine wpIn_region_lit ?_
      refine x_run tab hk (k := 1) (lv := []) (ks := [6]) (e' := [(6, .bool false)]) rfl trivial fun a hk => ?_
      refine wpListIn_nil ?_
      refine then_n ?_
      refine wpIn_ret ?_
      refine then_r ?_
      obtain rfl := Option.some.inj H
      exact x_retG hk (rs := [.tmp 6]) (vs := [.bool false]) rfl ⟨rfl, trivial⟩ ⟨fun b_ => if b_ < w.heap.size then o b_ else (fun _ => 0) (o24 b_), rfl, hs.close0 o (fun _ => 0)⟩
  · rw [b9] at hk H
    replace H := bifT H
    refine x_if hk (b := true) rfl ?_
    refine (show Code.wpIn _ _ _ _ _ _ _ from ?_)
    refine x_seq ?_
    refine wpIn_region_lit ?_
    refine x_run tab hk (k := 1) (lv := []) (ks := [6]) (e' := [(6, .bool false)]) rfl trivial fun a hk => ?_
    refine wpListIn_nil ?_
    refine then_n ?_
    refine wpIn_ret ?_
    refine then_r ?_
    obtain rfl := Option.some.inj H
    exact x_retG hk (rs := [.tmp 6]) (vs := [.bool false]) rfl ⟨rfl, trivial⟩ ⟨fun b_ => if b_ < w.heap.size then o b_ else (fun _ => 0) (o7 b_), rfl, hs.close0 o (fun _ => 0)⟩

/-! maps.Clone[map[int]string,int,string] -/
theorem maps_Clone_calls (Ap0 : Option Addr) (cp0 : Nat) (p0 : M ByteArray) (w : World) (o : Nat → Nat) (Lp0 : Nat) (hp0 : Ft (MpF encStr false Ap0 p0) w o Lp0) (hcp0 : (p0).length ≤ cp0)  (R0 : Nat) (r : M ByteArray) (H : maps_Clone p0 = some r) :
    Calls Try.prog 24 #[mv Ap0] w (Ret fun v_ w' => ∃ o' : Nat → Nat, ∃ A0 : Option Addr, ∃ c0 : Nat, v_ = mv A0 ∧ St [] w o w' o' ∧ Ft (MpF encStr false A0 r) w' o' R0 ∧ (r).length ≤ c0) := by
  refine x_enter (vs := [mv Ap0]) Try.func24 rfl rfl rfl fun a hk => ?_
  obtain ⟨o0, hs, h0⟩ := St.start w o
  have f900000 := h0 _ _ hp0
  clear h0
  rw [maps_Clone] at H
  refine x_seq ?_
  refine wpIn_region_lit ?_
  refine x_run tab hk (k := 1) (lv := []) (ks := [0]) (e' := [(0, mv Ap0)]) rfl trivial fun a hk => ?_
  refine wpListIn_nil ?_
  refine then_n ?_
  refine x_seq ?_
  refine x_seq ?_
  refine wpIn_region_lit ?_
  refine x_run tab hk (k := 2) (lv := [.bool (M.isNil p0)]) (ks := [0, 4]) (e' := [(0, mv Ap0), (4, .bool (M.isNil p0))]) rfl ⟨(ask_mnil (E := encStr) (ag := false) tab rfl f900000.now rfl), trivial⟩ fun a hk => ?_
  refine wpListIn_nil ?_
  refine then_n ?_
  cases b1 : (M.isNil p0)
  · rw [b1] at hk H
    replace H := bifF H
    refine x_if hk (b := false) rfl ?_
    refine (show Code.wpIn _ _ _ _ _ _ _ from ?_)
    refine wpIn_skip ?_
    refine then_n ?_
    refine x_seq ?_
    refine wpIn_region_lit ?_
    refine x_run tab hk (k := 2) (lv := [.iface 28 (mv Ap0)]) (ks := [6]) (e' := [(6, .iface 28 (mv Ap0))]) rfl ⟨(ask_iface tab rfl rfl _), trivial⟩ fun a hk => ?_
    refine x_op hk rfl ?_
    refine op_mclone (o := o0) hk Try.func31 (by kernel_rfl) (by kernel_rfl) (by kernel_rfl) (by kernel_rfl) rfl b1 f900000 1 fun bx5 w2 o3 st4 f6 => ?_
    replace hs := hs.loc0 st4 (by decide)
    have hk := hk.put 7 (.iface 28 (mv (some ⟨bx5, 0, none⟩))) rfl
    refine x_run tab hk (k := 2) (lv := [mv (some ⟨bx5, 0, none⟩)]) (ks := [2]) (e' := [(2, mv (some ⟨bx5, 0, none⟩))]) rfl ⟨(ask_assert tab rfl rfl _), trivial⟩ fun a hk => ?_
    refine wpListIn_nil ?_
    refine then_n ?_
    refine wpIn_ret ?_
    obtain rfl := Option.some.inj H
    exact x_retG hk (rs := [.tmp 2]) (vs := [mv (some ⟨bx5, 0, none⟩)]) rfl ⟨rfl, trivial⟩ ⟨fun b_ => if b_ < w.heap.size then o b_ else (fun _ => R0) (o3 b_), (some ⟨bx5, 0, none⟩), (p0).length, rfl, hs.close0 o (fun _ => R0), hs.close_ft (o := o) (ρ := fun _ => R0) f6 (by decide) rfl, (Nat.le_refl _)⟩
  · rw [b1] at hk H
    replace H := bifT H
    refine x_if hk (b := true) rfl ?_
    refine (show Code.wpIn _ _ _ _ _ _ _ from ?_)
    refine x_seq ?_
    refine wpIn_region_lit ?_
    refine x_run tab hk (k := 1) (lv := []) (ks := [2]) (e' := [(2, mv none)]) rfl trivial fun a hk => ?_
    refine wpListIn_nil ?_
    refine then_n ?_
    refine wpIn_ret ?_
    refine then_r ?_
    obtain rfl := Option.some.inj H
    exact x_retG hk (rs := [.tmp 2]) (vs := [mv none]) rfl ⟨rfl, trivial⟩ ⟨fun b_ => if b_ < w.heap.size then o b_ else (fun _ => 0) (o0 b_), none, 0, rfl, hs.close0 o (fun _ => 0), (Ft.of_all (fun _ => MpF.nil _ _ _) _ _ _), (Nat.le_refl _)⟩

/-! (*tidewrack/parts.Slot).Clone -/
theorem parts_Slot_Clone_calls (bp0 : Nat) (Ap0_0 : Option Addr) (cp0_0 : Nat) (p0 : T29) (w : World) (o : Nat → Nat) (Lp0 : Nat) (hp0 : Ft (Bx bp0 30 [.int .i64 p0.key, .int .i64 p0.count, mv Ap0_0, .int .i64 p0.bytes]) w o Lp0) (Lp0_0 : Nat) (hp0_0 : Ft (MpF encStr false Ap0_0 p0.parts) w o Lp0_0) (hcp0_0 : (p0.parts).length ≤ cp0_0)  (R0 : Nat) (R1 : Nat) (r : T29) (H : parts_Slot_Clone p0 = some r) :
    Calls Try.prog 15 #[.pointer (some ⟨bp0, 0, none⟩)] w (Ret fun v_ w' => ∃ o' : Nat → Nat, ∃ b0 : Nat, ∃ A0 : Option Addr, ∃ c0 : Nat, v_ = .pointer (some ⟨b0, 0, none⟩) ∧ St [] w o w' o' ∧ Ft (Bx b0 30 [.int .i64 r.key, .int .i64 r.count, mv A0, .int .i64 r.bytes]) w' o' R0 ∧ Ft (MpF encStr false A0 r.parts) w' o' R1 ∧ (r.parts).length ≤ c0) := by
  refine x_enter (vs := [.pointer (some ⟨bp0, 0, none⟩)]) Try.func15 rfl rfl rfl fun a hk => ?_
  obtain ⟨o0, hs, h0⟩ := St.start w o
  have f900000 := h0 _ _ hp0_0
  have f900019 := h0 _ _ hp0
  clear h0
  rw [parts_Slot_Clone] at H
  refine x_seq ?_
  refine wpIn_region_lit ?_
  refine x_run tab hk (k := 1) (lv := []) (ks := [0]) (e' := [(0, .pointer (some ⟨bp0, 0, none⟩))]) rfl trivial fun a hk => ?_
  refine wpListIn_nil ?_
  refine then_n ?_
  refine x_seq ?_
  refine wpIn_region_lit ?_
  refine x_run tab hk (k := 3) (lv := [.agg #[.int .i64 p0.key, .int .i64 p0.count, mv Ap0_0, .int .i64 p0.bytes]]) (ks := [0, 6]) (e' := [(0, .pointer (some ⟨bp0, 0, none⟩)), (6, .agg #[.int .i64 p0.key, .int .i64 p0.count, mv Ap0_0, .int .i64 p0.bytes])]) rfl ⟨(load_box tab rfl rfl f900019.now (k := 0) rfl rfl), trivial⟩ fun a hk => ?_
  refine x_op hk rfl ?_
  refine op_alloc (o := o0) tab (t := 30) (cs := [.int .i64 0, .int .i64 0, mv none, .int .i64 0]) rfl rfl 1 fun bx4 w1 o2 st3 f5 => ?_
  replace f900000 := f900000.st st3 (by decide)
  replace f900019 := f900019.st st3 (by decide)
  replace hs := hs.loc0 st3 (by decide)
  have hk := hk.put 3 (.pointer (some ⟨bx4, 0, none⟩)) rfl
  refine x_op hk rfl ?_
  refine op_store tab hk (t := 30) (v := .agg #[.int .i64 p0.key, .int .i64 p0.count, mv Ap0_0, .int .i64 p0.bytes]) (b := bx4) (k := 0) (cs' := [.int .i64 p0.key, .int .i64 p0.count, mv Ap0_0, .int .i64 p0.bytes]) rfl rfl rfl rfl rfl rfl f5 rfl rfl fun w6 o7 st8 f5_ => ?_
  replace f900000 := f900000.st st8 (by decide)
  replace f900019 := f900019.st st8 (by decide)
  replace hs := hs.loc0 st8 (by decide)
  replace f5 := f5_
  refine wpListIn_nil ?_
  refine then_n ?_
  refine x_seq ?_
  refine wpIn_region_lit ?_
  refine x_run tab hk (k := 4) (lv := [mv Ap0_0]) (ks := [3, 10]) (e' := [(3, .pointer (some ⟨bx4, 0, none⟩)), (10, mv Ap0_0)]) rfl ⟨(load1 tab rfl ((Bx.cell f900019.now 2).trans rfl)), trivial⟩ fun a hk => ?_
  refine x_op hk rfl ?_
  obtain ⟨t12, hc13, H⟩ := bindS H
  refine op_call hk ent_24 (vs := [mv Ap0_0]) rfl (maps_Clone_calls Ap0_0 cp0_0 p0.parts _ o7 _ f900000 hcp0_0 2  _ hc13) ?_
  rintro _ w14 ⟨o15, A17, c18, rfl, st16, f19, hc20⟩
  replace f5 := f5.st st16 (by decide)
  replace f900000 := f900000.st st16 (by decide)
  replace f900019 := f900019.st st16 (by decide)
  replace hs := hs.loc0 st16 (by decide)
  have hk := hk.put 11 (mv A17) rfl
  refine x_run tab hk (k := 1) (lv := []) (ks := [3, 11, 12]) (e' := [(3, .pointer (some ⟨bx4, 0, none⟩)), (11, mv A17), (12, .pointer (some ((⟨bx4, 0, none⟩ : Addr).add 2)))]) rfl trivial fun a hk => ?_
  refine x_op hk rfl ?_
  refine op_store tab hk (t := 28) (v := mv A17) (b := bx4) (k := 2) (cs' := [.int .i64 p0.key, .int .i64 p0.count, mv A17, .int .i64 p0.bytes]) rfl rfl rfl rfl rfl rfl f5 rfl rfl fun w21 o22 st23 f5_ => ?_
  replace f19 := f19.st st23 (by decide)
  replace f900000 := f900000.st st23 (by decide)
  replace f900019 := f900019.st st23 (by decide)
  replace hs := hs.loc0 st23 (by decide)
  replace f5 := f5_
  refine wpListIn_nil ?_
  refine then_n ?_
  refine x_seq ?_
  refine wpIn_region_lit ?_
  refine x_run tab hk (k := 1) (lv := []) (ks := [2]) (e' := [(2, .pointer (some ⟨bx4, 0, none⟩))]) rfl trivial fun a hk => ?_
  refine wpListIn_nil ?_
  refine then_n ?_
  refine wpIn_ret ?_
  obtain rfl := Option.some.inj H
  exact x_retG hk (rs := [.tmp 2]) (vs := [.pointer (some ⟨bx4, 0, none⟩)]) rfl ⟨rfl, trivial⟩ ⟨fun b_ => if b_ < w.heap.size then o b_ else (fun l_ => if l_ = 1 then R0 else if l_ = 2 then R1 else 0) (o22 b_), bx4, A17, c18, rfl, hs.close0 o (fun l_ => if l_ = 1 then R0 else if l_ = 2 then R1 else 0), hs.close_ft (o := o) (ρ := fun l_ => if l_ = 1 then R0 else if l_ = 2 then R1 else 0) f5 (by decide) rfl, hs.close_ft (o := o) (ρ := fun l_ => if l_ = 1 then R0 else if l_ = 2 then R1 else 0) f19 (by decide) rfl, hc20⟩

/-! tidewrack/tidewrackref04.Which -/
theorem tidewrackref04_Which_calls (K : Nat) (Ap0_0 : Option Addr) (cp0_0 : Nat) (Ap0_1 : Option Addr) (cp0_1 : Nat) (p0 : T40) (p1 : Bool) (w : World) (o : Nat → Nat) (Lp0_0 : Nat) (hp0_0 : Ft (RdC encBool Ap0_0 p0.Has) w o Lp0_0) (hcp0_0 : (p0.Has).length ≤ cp0_0) (Lp0_1 : Nat) (hp0_1 : Ft (RdC encStr Ap0_1 p0.Parts) w o Lp0_1) (hcp0_1 : (p0.Parts).length ≤ cp0_1)  (R0 : Nat) (r : List Int) (H : tidewrackref04_Which K p0 p1 = some r) :
    Calls Try.prog 29 #[.agg #[.int .i64 p0.Key, .slice Ap0_0 (p0.Has).length cp0_0, .slice Ap0_1 (p0.Parts).length cp0_1], .bool p1] w (Ret fun v_ w' => ∃ o' : Nat → Nat, ∃ A0 : Option Addr, ∃ c0 : Nat, v_ = .slice A0 (r).length c0 ∧ St [] w o w' o' ∧ Ft (Own (encInt .i64) 3 (.slice A0 (r).length c0) r) w' o' R0 ∧ (r).length ≤ c0) := by
  refine x_enter (vs := [.agg #[.int .i64 p0.Key, .slice Ap0_0 (p0.Has).length cp0_0, .slice Ap0_1 (p0.Parts).length cp0_1], .bool p1]) Try.func29 rfl rfl rfl fun a hk => ?_
  obtain ⟨o0, hs, h0⟩ := St.start w o
  have f900000 := h0 _ _ hp0_0
  have f900001 := h0 _ _ hp0_1
  clear h0
  rw [tidewrackref04_Which] at H
  refine x_seq ?_
  refine wpIn_region_lit ?_
  refine x_op hk rfl ?_
  refine op_box (o := o0) (t := 41) (v := .agg #[.int .i64 p0.Key, .slice Ap0_0 (p0.Has).length cp0_0, .slice Ap0_1 (p0.Parts).length cp0_1]) (cs := [.int .i64 p0.Key, .slice Ap0_0 (p0.Has).length cp0_0, .slice Ap0_1 (p0.Parts).length cp0_1]) hk rfl rfl 1 fun bx4 w1 o2 st3 f5 => ?_
  replace f900000 := f900000.st st3 (by decide)
  replace f900001 := f900001.st st3 (by decide)
  replace hs := hs.loc0 st3 (by decide)
  have hk := hk.put 2 (.pointer (some ⟨bx4, 0, none⟩)) rfl
  refine x_run tab hk (k := 1) (lv := []) (ks := [1, 2]) (e' := [(1, .bool p1), (2, .pointer (some ⟨bx4, 0, none⟩))]) rfl trivial fun a hk => ?_
  refine wpListIn_nil ?_
  refine then_n ?_
  refine x_seq ?_
  refine wpIn_region_lit ?_
  refine x_op hk rfl ?_
  refine op_slice (o := o2) tab hk (vs := []) (cs := []) rfl rfl rfl rfl rfl rfl rfl rfl rfl 2 fun bx9 w6 o7 st8 f10 => ?_
  replace f5 := f5.st st8 (by decide)
  replace f900000 := f900000.st st8 (by decide)
  replace f900001 := f900001.st st8 (by decide)
  replace hs := hs.loc0 st8 (by decide)
  have f11 : Ft (Own (encInt .i64) 3 (.slice (some ⟨bx9, 0, none⟩) (([] : List Int)).length 0) ([] : List Int)) w6 o7 2 := f10.imp fun _ h_ => Own.of_box h_ rfl (by simp)
  have hk := hk.put 8 (.slice (some ⟨bx9, 0, none⟩) (([] : List Int)).length 0) rfl
  refine x_run tab hk (k := 1) (lv := []) (ks := [1, 2, 5]) (e' := [(1, .bool p1), (2, .pointer (some ⟨bx4, 0, none⟩)), (5, .slice (some ⟨bx9, 0, none⟩) (([] : List Int)).length 0)]) rfl trivial fun a hk => ?_
  refine wpListIn_nil ?_
  refine then_n ?_
  refine x_mid (fun a_ w_ => ∃ o90 : Nat → Nat, ∃ A91 : Option Addr, ∃ c92 : Nat, ∃ l93 : List Int, Kn 26 a_ [(5, .slice A91 (l93).length c92)] ∧ St [] w (fun _ => 0) w_ o90 ∧ Ft (Own (encInt .i64) 3 (.slice A91 (l93).length c92) l93) w_ o90 8 ∧ (l93).length ≤ c92 ∧ tidewrackref04_Which_j1 l93 = some r) ?_ ?_
  rotate_left
  · rintro a w96 ⟨o90, A91, c92, l93, hk, hs, f94, hc95, H⟩
    rw [tidewrackref04_Which_j1] at H
    refine x_seq ?_
    refine wpIn_region_lit ?_
    refine x_run tab hk (k := 2) (lv := []) (ks := [4]) (e' := [(4, .slice A91 (l93).length c92)]) rfl trivial fun a hk => ?_
    refine wpListIn_nil ?_
    refine then_n ?_
    refine wpIn_ret ?_
    obtain rfl := Option.some.inj H
    exact x_retG hk (rs := [.tmp 4]) (vs := [.slice A91 (l93).length c92]) rfl ⟨rfl, trivial⟩ ⟨fun b_ => if b_ < w.heap.size then o b_ else (fun _ => R0) (o90 b_), A91, c92, rfl, hs.close0 o (fun _ => R0), hs.close_ft (o := o) (ρ := fun _ => R0) f94 (by decide) rfl, hc95⟩
  refine x_seq ?_
  refine wpIn_region_lit ?_
  refine x_run tab hk (k := 4) (lv := [.slice Ap0_0 (p0.Has).length cp0_0]) (ks := [1, 5, 10, 11, 12]) (e' := [(1, .bool p1), (5, .slice (some ⟨bx9, 0, none⟩) (([] : List Int)).length 0), (10, .slice Ap0_0 (p0.Has).length cp0_0), (11, .int .i64 ((p0.Has).length : Int)), (12, .int .i64 0)]) rfl ⟨(load1 tab rfl ((Bx.cell f5.now 1).trans rfl)), trivial⟩ fun a hk => ?_
  refine wpListIn_nil ?_
  refine then_n ?_
  refine wpIn_block ?_
  refine x_loop (fun j_ a_ w_ => ∃ o118 : Nat → Nat, ∃ A119 : Option Addr, ∃ c120 : Nat, ∃ l121 : List Int, ∃ x124 : Int, Kn 26 a_ [(1, .bool p1), (5, .slice A119 (l121).length c120), (10, .slice Ap0_0 (p0.Has).length cp0_0), (11, .int .i64 ((p0.Has).length : Int)), (12, .int .i64 x124)] ∧ St [] w (fun _ => 0) w_ o118 ∧ Ft (Own (encInt .i64) 3 (.slice A119 (l121).length c120) l121) w_ o118 11 ∧ Ft (RdC encBool Ap0_0 p0.Has) w_ o118 0 ∧ (l121).length ≤ c120 ∧ tidewrackref04_Which_l2 p0 p1 j_ l121 x124 = some r) (k := K) ⟨(fun b_ => (fun l_ => if l_ = 2 then 11 else l_) (o7 b_)), (some ⟨bx9, 0, none⟩), 0, ([] : List Int), 0, (by exact Kn.pick (ks := [1, 5, 10, 11, 12]) hk rfl), (hs.relab0 (fun l_ => if l_ = 2 then 11 else l_) rfl), (f11.relab (fun l_ => if l_ = 2 then 11 else l_) rfl), (f900000.relab (fun l_ => if l_ = 2 then 11 else l_) rfl), (Nat.le_refl _), H⟩ (by rintro _ _ ⟨_, _, _, _, _, _, _, _, _, _, H_⟩; exact absurd (show (none : Option (List Int)) = some r from H_) (by simp)) ?_
  rintro k144 a w143 ⟨o118, A119, c120, l121, x124, hk, hs, f122, f900000, hc123, H⟩
  rw [tidewrackref04_Which_l2] at H
  obtain ⟨lp145, hlp146⟩ : ∃ lp_, lp_ = tidewrackref04_Which_l2 p0 p1 k144 := ⟨_, rfl⟩
  rw [← hlp146] at H
  refine x_seq ?_
  refine wpIn_region_lit ?_
  refine x_run tab hk (k := 1) (lv := []) (ks := [1, 5, 10, 11, 12, 13]) (e' := [(1, .bool p1), (5, .slice A119 (l121).length c120), (10, .slice Ap0_0 (p0.Has).length cp0_0), (11, .int .i64 ((p0.Has).length : Int)), (12, .int .i64 x124), (13, .bool (decide (x124 < ((p0.Has).length : Int))))]) rfl trivial fun a hk => ?_
  refine wpListIn_nil ?_
  refine then_n ?_
  refine x_seq ?_
  cases b147 : (decide (x124 < ((p0.Has).length : Int)))
  · rw [b147] at hk H
    replace H := bifF H
    refine x_if hk (b := false) rfl ?_
    refine (show Code.wpIn _ _ _ _ _ _ _ from ?_)
    refine wpIn_exit ?_
    refine then_x ?_
    refine then_x ?_
    refine blk_x ?_
    refine then_n ?_
    exact ⟨(fun b_ => (fun l_ => if l_ = 11 then 8 else l_) (o118 b_)), A119, c120, l121, (by exact Kn.pick (ks := [5]) hk rfl), (hs.relab0 (fun l_ => if l_ = 11 then 8 else l_) rfl), (f122.relab (fun l_ => if l_ = 11 then 8 else l_) rfl), hc123, H⟩
  · rw [b147] at hk H
    replace H := bifT H
    refine x_if hk (b := true) rfl ?_
    refine (show Code.wpIn _ _ _ _ _ _ _ from ?_)
    refine wpIn_skip ?_
    refine then_n ?_
    refine x_seq ?_
    refine wpIn_block ?_
    refine x_seq ?_
    refine wpIn_region_lit ?_
    obtain ⟨q148, H⟩ := ifS H
    obtain ⟨ad149, hAad149⟩ := RdC.addr f900000.now q148
    have hk_C := hk
    have f122_C := f122
    have f900000_C := f900000
    subst hAad149
    have hk := hk_C
    clear hk_C
    have f122 := f122_C
    clear f122_C
    have f900000 := f900000_C
    clear f900000_C
    refine x_run tab hk (k := 5) (lv := [.bool (rdD false p0.Has x124)]) (ks := [1, 5, 6, 7, 10, 11, 12]) (e' := [(1, .bool p1), (5, .slice A119 (l121).length c120), (6, .int .i64 x124), (7, .bool (rdD false p0.Has x124)), (10, .slice (some ad149) (p0.Has).length cp0_0), (11, .int .i64 ((p0.Has).length : Int)), (12, .int .i64 x124)]) rfl ⟨q148, (load1 tab rfl (RdC.at0 (E := encBool) (d := false) (i := x124) f900000.now q148 rfl)), trivial⟩ fun a hk => ?_
    refine wpListIn_nil ?_
    refine then_n ?_
    refine x_seq ?_
    refine wpIn_region_lit ?_
    refine x_run tab hk (k := 3) (lv := []) (ks := [1, 5, 6, 10, 11, 12, 19]) (e' := [(1, .bool p1), (5, .slice A119 (l121).length c120), (6, .int .i64 x124), (10, .slice (some ad149) (p0.Has).length cp0_0), (11, .int .i64 ((p0.Has).length : Int)), (12, .int .i64 x124), (19, .bool ((rdD false p0.Has x124) == p1))]) rfl trivial fun a hk => ?_
    refine wpListIn_nil ?_
    refine then_n ?_
    cases b150 : ((rdD false p0.Has x124) == p1)
    · rw [b150] at hk H
      replace H := bifF H
      refine x_if hk (b := false) rfl ?_
      refine (show Code.wpIn _ _ _ _ _ _ _ from ?_)
      refine wpIn_skip ?_
      refine blk_n ?_
      refine then_n ?_
      refine wpIn_region_lit ?_
      refine x_run tab hk (k := 2) (lv := []) (ks := [1, 5, 10, 11, 12]) (e' := [(1, .bool p1), (5, .slice A119 (l121).length c120), (10, .slice (some ad149) (p0.Has).length cp0_0), (11, .int .i64 ((p0.Has).length : Int)), (12, .int .i64 (IntKind.wrap .i64 (x124 + 1)))]) rfl trivial fun a hk => ?_
      refine wpListIn_nil ?_
      refine then_n ?_
      exact ⟨k144, Nat.le_refl _, o118, A119, c120, l121, (IntKind.wrap .i64 (x124 + 1)), (by exact Kn.pick (ks := [1, 5, 10, 11, 12]) hk rfl), hs, f122, f900000, hc123, (hlp146 ▸ H)⟩
    · rw [b150] at hk H
      replace H := bifT H
      refine x_if hk (b := true) rfl ?_
      refine (show Code.wpIn _ _ _ _ _ _ _ from ?_)
      refine wpIn_region_lit ?_
      refine x_run tab hk (k := 2) (lv := []) (ks := [1, 10, 11, 12, 20, 21]) (e' := [(1, .bool p1), (10, .slice (some ad149) (p0.Has).length cp0_0), (11, .int .i64 ((p0.Has).length : Int)), (12, .int .i64 x124), (20, .slice A119 (l121).length c120), (21, .int .i64 x124)]) rfl trivial fun a hk => ?_
      refine x_op hk rfl ?_
      refine op_slice (o := o118) tab hk (vs := [.int .i64 x124]) (cs := [.int .i64 x124]) rfl rfl rfl rfl rfl rfl rfl rfl rfl 13 fun bx154 w151 o152 st153 f155 => ?_
      replace f122 := f122.st st153 (by decide)
      replace f900000 := f900000.st st153 (by decide)
      replace hs := hs.loc0 st153 (by decide)
      have f156 : Ft (Own (encInt .i64) 3 (.slice (some ⟨bx154, 0, none⟩) (([x124] : List Int)).length 1) ([x124] : List Int)) w151 o152 13 := f155.imp fun _ h_ => Own.of_box h_ rfl (by simp)
      have hk := hk.put 22 (.slice (some ⟨bx154, 0, none⟩) (([x124] : List Int)).length 1) rfl
      refine x_op hk rfl ?_
      obtain ⟨q160, H⟩ := ifS H
      refine op_append (o := o152) (E := (encInt .i64)) (xs := l121) (ys := ([x124] : List Int)) tab hk rfl rfl rfl rfl rfl rfl rfl f122 (Own.rd f156.now) q160 fun A161 c162 w157 o158 st159 f163 hc164 => ?_
      replace f156 := f156.st st159 (by decide)
      replace f900000 := f900000.st st159 (by decide)
      replace hs := hs.loc0 st159 (by decide)
      have hk := hk.put 23 (.slice A161 ((l121 ++ ([x124] : List Int))).length c162) rfl
      refine x_run tab hk (k := 1) (lv := []) (ks := [1, 5, 10, 11, 12]) (e' := [(1, .bool p1), (5, .slice A161 ((l121 ++ ([x124] : List Int))).length c162), (10, .slice (some ad149) (p0.Has).length cp0_0), (11, .int .i64 ((p0.Has).length : Int)), (12, .int .i64 x124)]) rfl trivial fun a hk => ?_
      refine wpListIn_nil ?_
      refine blk_n ?_
      refine then_n ?_
      refine wpIn_region_lit ?_
      refine x_run tab hk (k := 2) (lv := []) (ks := [1, 5, 10, 11, 12]) (e' := [(1, .bool p1), (5, .slice A161 ((l121 ++ ([x124] : List Int))).length c162), (10, .slice (some ad149) (p0.Has).length cp0_0), (11, .int .i64 ((p0.Has).length : Int)), (12, .int .i64 (IntKind.wrap .i64 (x124 + 1)))]) rfl trivial fun a hk => ?_
      refine wpListIn_nil ?_
      refine then_n ?_
      exact ⟨k144, Nat.le_refl _, o158, A161, c162, (l121 ++ ([x124] : List Int)), (IntKind.wrap .i64 (x124 + 1)), (by exact Kn.pick (ks := [1, 5, 10, 11, 12]) hk rfl), hs, f163, f900000, hc164, (hlp146 ▸ H)⟩

end Go.Proofs.Ytibcjohofabllaa
