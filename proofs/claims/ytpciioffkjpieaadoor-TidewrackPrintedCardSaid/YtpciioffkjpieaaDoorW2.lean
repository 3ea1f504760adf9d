/- Walks, printed by an own program: the machine's calls compute the plain functions. -/
import Derived.Test.YtpciioffkjpieaaDoorW1
set_option linter.unusedVariables false
set_option linter.unusedSimpArgs false
namespace Go.Proofs.YtpciioffkjpieaaDoor
open Go Go.Proofs.XC
/-! (*tidewrack/seq.Parser).onSkip -/
theorem seq_Parser_onSkip_calls (bp0 : Nat) (Ap0_0 : Option Addr) (cp0_0 : Nat) (Ap0_1 : Option Addr) (cp0_1 : Nat) (p0 : T47) (p1 : Int) (w : World) (o : Nat → Nat) (LF : Nat) (Lp0 : Nat) (hp0 : Ft (Bx bp0 48 [.int .i64 p0.state, .bool p0.order_private_, .bool p0.order_wrong, .bool p0.order_any, .bool p0.order_some, .int .i64 p0.order_n, .slice Ap0_0 (p0.order_nums).length cp0_0, .string p0.text, .int .u8 p0.runes_Lead, .int .i32 p0.runes_Rune, .int .i64 p0.runes_Need, .slice Ap0_1 (p0.out).length cp0_1]) w o Lp0) (Lp0_0 : Nat) (hp0_0 : CO (encInt .i64) 3 Ap0_0 cp0_0 p0.order_nums (p0.state == (3 : Int)) w o Lp0_0 LF) (hcp0_0 : (p0.order_nums).length ≤ cp0_0) (Lp0_1 : Nat) (hp0_1 : NOwn dT50 51 Ap0_1 cp0_1 p0.out w o Lp0_1 LF) (hcp0_1 : (p0.out).length ≤ cp0_1) (hd0 : ([LF, Lp0, Lp0_0, Lp0_1] : List Nat).Nodup) (r : T47) (H : seq_Parser_onSkip p0 p1 = some r) :
    Calls Tryd.prog 79 #[.pointer (some ⟨bp0, 0, none⟩), .int .u8 p1] w (Ret fun v_ w' => ∃ o' : Nat → Nat, ∃ A0 : Option Addr, ∃ c0 : Nat, ∃ A1 : Option Addr, ∃ c1 : Nat, v_ = .tuple #[] ∧ St [Lp0, Lp0_0, Lp0_1] w o w' o' ∧ Ft (Bx bp0 48 [.int .i64 r.state, .bool r.order_private_, .bool r.order_wrong, .bool r.order_any, .bool r.order_some, .int .i64 r.order_n, .slice A0 (r.order_nums).length c0, .string r.text, .int .u8 r.runes_Lead, .int .i32 r.runes_Rune, .int .i64 r.runes_Need, .slice A1 (r.out).length c1]) w' o' Lp0 ∧ CO (encInt .i64) 3 A0 c0 (r.order_nums) (r.state == (3 : Int)) w' o' Lp0_0 LF ∧ (r.order_nums).length ≤ c0 ∧ NOwn dT50 51 A1 c1 r.out w' o' Lp0_1 LF ∧ (r.out).length ≤ c1) := by
  refine x_enter (vs := [.pointer (some ⟨bp0, 0, none⟩), .int .u8 p1]) Tryd.func79 rfl rfl rfl fun a hk => ?_
  obtain ⟨oi, hs0, h0, h1, hob, hoz, hoa⟩ := St.startM2 w o (m := 4) hd0 rfl
  have hs := hs0 [2, 3, 4]
  have f900000 := hp0_0.conv (fun _ h_ => h1 2 3 h_ rfl rfl) (fun _ h_ => h1 0 1 h_ rfl rfl)
  have f900001 := hp0_1.conv (fun _ h_ => h1 3 4 h_ rfl rfl) (fun _ h_ => h1 0 1 h_ rfl rfl)
  have f900019 := h1 1 2 hp0 rfl rfl
  clear h0 h1 hs0
  rw [seq_Parser_onSkip] at H
  refine x_mid (fun a_ w_ => ∃ o45 : Nat → Nat, ∃ x46 : Int, ∃ x47 : Bool, ∃ x48 : Bool, ∃ x49 : Bool, ∃ x50 : Bool, ∃ x51 : Int, ∃ A52 : Option Addr, ∃ c53 : Nat, ∃ l54 : List Int, ∃ x57 : ByteArray, ∃ x58 : Int, ∃ x59 : Int, ∃ x60 : Int, ∃ A61 : Option Addr, ∃ c62 : Nat, ∃ l63 : List T50, ∃ x66 : Bool, Kn 15 a_ [(0, .pointer (some ⟨bp0, 0, none⟩)), (11, .bool x66)] ∧ St [2, 3, 4] w oi w_ o45 ∧ CO (encInt .i64) 3 A52 c53 l54 (x46 == (3 : Int)) w_ o45 3 1 ∧ NOwn dT50 51 A61 c62 l63 w_ o45 4 1 ∧ Ft (Bx bp0 48 [.int .i64 x46, .bool x47, .bool x48, .bool x49, .bool x50, .int .i64 x51, .slice A52 (l54).length c53, .string x57, .int .u8 x58, .int .i32 x59, .int .i64 x60, .slice A61 (l63).length c62]) w_ o45 2 ∧ (l54).length ≤ c53 ∧ (l63).length ≤ c62 ∧ seq_Parser_onSkip_j1 x46 x47 x48 x49 x50 x51 l54 x57 x58 x59 x60 l63 x66 = some r) ?_ ?_
  rotate_left
  · rintro a w67 ⟨o45, x46, x47, x48, x49, x50, x51, A52, c53, l54, x57, x58, x59, x60, A61, c62, l63, x66, hk, hs, f55, f64, f9, hc56, hc65, H⟩
    rw [seq_Parser_onSkip_j1] at H
    cases b68 : x66
    · rw [b68] at hk H
      replace H := bifF H
      refine x_if hk (b := false) rfl ?_
      refine (show Code.wpIn _ _ _ _ _ _ _ from ?_)
      refine wpIn_skip ?_
      obtain rfl := Option.some.inj H
      exact x_endG hk (rs := []) (vs := []) rfl trivial ⟨cl w oi o [2, 3, 4] (fun l_ => if l_ = 1 then LF else if l_ = 2 then Lp0 else if l_ = 3 then Lp0_0 else if l_ = 4 then Lp0_1 else 0) o45, A52, c53, A61, c62, rfl, hs.closeF (Lm := [Lp0, Lp0_0, Lp0_1]) (Sh := []) hoa rfl (fun l_ => if l_ = 1 then LF else if l_ = 2 then Lp0 else if l_ = 3 then Lp0_0 else if l_ = 4 then Lp0_1 else 0), hs.closeM_ft (o := o) (ρ := fun l_ => if l_ = 1 then LF else if l_ = 2 then Lp0 else if l_ = 3 then Lp0_0 else if l_ = 4 then Lp0_1 else 0) f9 (lab_at hoa (i := 1) rfl) rfl, f55.conv (fun _ h_ => hs.closeM_ft (o := o) (ρ := fun l_ => if l_ = 1 then LF else if l_ = 2 then Lp0 else if l_ = 3 then Lp0_0 else if l_ = 4 then Lp0_1 else 0) h_ (lab_at hoa (i := 2) rfl) rfl) (fun _ h_ => hs.closeM_ft (o := o) (ρ := fun l_ => if l_ = 1 then LF else if l_ = 2 then Lp0 else if l_ = 3 then Lp0_0 else if l_ = 4 then Lp0_1 else 0) h_ (lab_at hoa (i := 0) rfl) rfl), hc56, f64.conv (fun _ h_ => hs.closeM_ft (o := o) (ρ := fun l_ => if l_ = 1 then LF else if l_ = 2 then Lp0 else if l_ = 3 then Lp0_0 else if l_ = 4 then Lp0_1 else 0) h_ (lab_at hoa (i := 3) rfl) rfl) (fun _ h_ => hs.closeM_ft (o := o) (ρ := fun l_ => if l_ = 1 then LF else if l_ = 2 then Lp0 else if l_ = 3 then Lp0_0 else if l_ = 4 then Lp0_1 else 0) h_ (lab_at hoa (i := 0) rfl) rfl), hc65⟩
    · rw [b68] at hk H
      replace H := bifT H
      refine x_if hk (b := true) rfl ?_
      refine (show Code.wpIn _ _ _ _ _ _ _ from ?_)
      refine wpIn_region_lit ?_
      refine x_run tab hk (k := 3) (lv := []) (ks := [14]) (e' := [(14, .pointer (some ⟨bp0, 0, none⟩))]) rfl trivial fun a hk => ?_
      refine x_op hk rfl ?_
      refine op_store tab hk (t := 3) (v := .int .i64 0) (b := bp0) (k := 0) (cs' := [.int .i64 0, .bool x47, .bool x48, .bool x49, .bool x50, .int .i64 x51, .slice A52 (l54).length c53, .string x57, .int .u8 x58, .int .i32 x59, .int .i64 x60, .slice A61 (l63).length c62]) rfl rfl rfl rfl rfl rfl f9 rfl rfl fun w69 o70 st71 f9_ => ?_
      replace f55 := f55.st st71 (by decide)
      replace f64 := f64.st st71 (by decide)
      replace hs := hs.locQ st71 hob rfl
      replace f9 := f9_
      replace f55 := f55.weak
      refine wpListIn_nil ?_
      obtain rfl := Option.some.inj H
      exact x_endG hk (rs := []) (vs := []) rfl trivial ⟨cl w oi o [2, 3, 4] (fun l_ => if l_ = 1 then LF else if l_ = 2 then Lp0 else if l_ = 3 then Lp0_0 else if l_ = 4 then Lp0_1 else 0) o70, A52, c53, A61, c62, rfl, hs.closeF (Lm := [Lp0, Lp0_0, Lp0_1]) (Sh := []) hoa rfl (fun l_ => if l_ = 1 then LF else if l_ = 2 then Lp0 else if l_ = 3 then Lp0_0 else if l_ = 4 then Lp0_1 else 0), hs.closeM_ft (o := o) (ρ := fun l_ => if l_ = 1 then LF else if l_ = 2 then Lp0 else if l_ = 3 then Lp0_0 else if l_ = 4 then Lp0_1 else 0) f9 (lab_at hoa (i := 1) rfl) rfl, f55.conv (fun _ h_ => hs.closeM_ft (o := o) (ρ := fun l_ => if l_ = 1 then LF else if l_ = 2 then Lp0 else if l_ = 3 then Lp0_0 else if l_ = 4 then Lp0_1 else 0) h_ (lab_at hoa (i := 2) rfl) rfl) (fun _ h_ => hs.closeM_ft (o := o) (ρ := fun l_ => if l_ = 1 then LF else if l_ = 2 then Lp0 else if l_ = 3 then Lp0_0 else if l_ = 4 then Lp0_1 else 0) h_ (lab_at hoa (i := 0) rfl) rfl), hc56, f64.conv (fun _ h_ => hs.closeM_ft (o := o) (ρ := fun l_ => if l_ = 1 then LF else if l_ = 2 then Lp0 else if l_ = 3 then Lp0_0 else if l_ = 4 then Lp0_1 else 0) h_ (lab_at hoa (i := 3) rfl) rfl) (fun _ h_ => hs.closeM_ft (o := o) (ρ := fun l_ => if l_ = 1 then LF else if l_ = 2 then Lp0 else if l_ = 3 then Lp0_0 else if l_ = 4 then Lp0_1 else 0) h_ (lab_at hoa (i := 0) rfl) rfl), hc65⟩
  refine wpIn_region_lit ?_
  refine x_run tab hk (k := 2) (lv := []) (ks := [0, 1, 4, 5]) (e' := [(0, .pointer (some ⟨bp0, 0, none⟩)), (1, .int .u8 p1), (4, .pointer (some ⟨bp0, 0, none⟩)), (5, .int .u8 p1)]) rfl trivial fun a hk => ?_
  refine x_op hk rfl ?_
  obtain ⟨t75, hc76, H⟩ := bindS H
  refine op_call hk ent_106 (vs := [.pointer (some ⟨bp0, 0, none⟩), .int .u8 p1]) rfl (seq_Parser_common_calls bp0 Ap0_0 cp0_0 Ap0_1 cp0_1 p0 p1 _ oi 1 2 f900019 3 f900000 hcp0_0 4 f900001 hcp0_1 (by decide)   _ hc76) ?_
  rintro _ w77 ⟨o78, A81, c82, A85, c86, rfl, st79, f80, f83, hc84, f87, hc88⟩
  replace hs := hs.locQ st79 hob rfl
  have hk := hk.put 6 (.bool t75.1) rfl
  refine x_run tab hk (k := 2) (lv := []) (ks := [0, 1, 8]) (e' := [(0, .pointer (some ⟨bp0, 0, none⟩)), (1, .int .u8 p1), (8, .bool (!t75.1))]) rfl trivial fun a hk => ?_
  cases b89 : (!t75.1)
  · rw [b89] at hk H
    replace H := bifF H
    refine x_run tab hk (k := 3) (lv := []) (ks := [0, 11]) (e' := [(0, .pointer (some ⟨bp0, 0, none⟩)), (11, .bool false)]) rfl trivial fun a hk => ?_
    refine wpListIn_nil ?_
    refine then_n ?_
    exact ⟨o78, t75.2.state, t75.2.order_private_, t75.2.order_wrong, t75.2.order_any, t75.2.order_some, t75.2.order_n, A81, c82, t75.2.order_nums, t75.2.text, t75.2.runes_Lead, t75.2.runes_Rune, t75.2.runes_Need, A85, c86, t75.2.out, false, (by exact Kn.pick (ks := [0, 11]) hk rfl), hs, f83, f87, f80, hc84, hc88, H⟩
  · rw [b89] at hk H
    replace H := bifT H
    refine x_run tab hk (k := 3) (lv := []) (ks := [0, 11]) (e' := [(0, .pointer (some ⟨bp0, 0, none⟩)), (11, .bool (decide (p1 ≥ (48 : Int))))]) rfl trivial fun a hk => ?_
    refine wpListIn_nil ?_
    refine then_n ?_
    exact ⟨o78, t75.2.state, t75.2.order_private_, t75.2.order_wrong, t75.2.order_any, t75.2.order_some, t75.2.order_n, A81, c82, t75.2.order_nums, t75.2.text, t75.2.runes_Lead, t75.2.runes_Rune, t75.2.runes_Need, A85, c86, t75.2.out, (decide (p1 ≥ (48 : Int))), (by exact Kn.pick (ks := [0, 11]) hk rfl), hs, f83, f87, f80, hc84, hc88, H⟩

/-! (*tidewrack/seq.order).push -/
theorem seq_order_push_calls (bp0 : Nat) (Ap0_0 : Option Addr) (cp0_0 : Nat) (p0 : T42) (w : World) (o : Nat → Nat) (Lp0 : Nat) (hp0 : Ft (Bx bp0 43 [.bool p0.private_, .bool p0.wrong, .bool p0.any, .bool p0.some, .int .i64 p0.n, .slice Ap0_0 (p0.nums).length cp0_0]) w o Lp0) (Lp0_0 : Nat) (hp0_0 : Ft (Own (encInt .i64) 3 (.slice Ap0_0 (p0.nums).length cp0_0) p0.nums) w o Lp0_0) (hcp0_0 : (p0.nums).length ≤ cp0_0) (hd0 : ([Lp0, Lp0_0] : List Nat).Nodup) (r : T42) (H : seq_order_push p0 = some r) :
    Calls Tryd.prog 108 #[.pointer (some ⟨bp0, 0, none⟩)] w (Ret fun v_ w' => ∃ o' : Nat → Nat, ∃ A0 : Option Addr, ∃ c0 : Nat, v_ = .tuple #[] ∧ St [Lp0, Lp0_0] w o w' o' ∧ Ft (Bx bp0 43 [.bool r.private_, .bool r.wrong, .bool r.any, .bool r.some, .int .i64 r.n, .slice A0 (r.nums).length c0]) w' o' Lp0 ∧ Ft (Own (encInt .i64) 3 (.slice A0 (r.nums).length c0) r.nums) w' o' Lp0_0 ∧ (r.nums).length ≤ c0) := by
  refine x_enter (vs := [.pointer (some ⟨bp0, 0, none⟩)]) Tryd.func108 rfl rfl rfl fun a hk => ?_
  obtain ⟨oi, hs0, h0, h1, hob, hoz, hoa⟩ := St.startM2 w o (m := 2) hd0 rfl
  have hs := hs0 [1, 2]
  have hom := lab_in hob (MM := [1, 2]) (by decide)
  have f900000 := h1 1 2 hp0_0 rfl rfl
  have f900019 := h1 0 1 hp0 rfl rfl
  clear h0 h1 hs0
  rw [seq_order_push] at H
  refine x_seq ?_
  refine x_seq ?_
  refine wpIn_region_lit ?_
  refine x_run tab hk (k := 6) (lv := [.slice Ap0_0 (p0.nums).length cp0_0]) (ks := [0, 7]) (e' := [(0, .pointer (some ⟨bp0, 0, none⟩)), (7, .bool (decide (((p0.nums).length : Int) < (16 : Int))))]) rfl ⟨(load1 tab rfl ((Bx.cell f900019.now 5).trans rfl)), trivial⟩ fun a hk => ?_
  refine wpListIn_nil ?_
  refine then_n ?_
  cases b1 : (decide (((p0.nums).length : Int) < (16 : Int)))
  · rw [b1] at hk H
    replace H := bifF H
    refine x_if hk (b := false) rfl ?_
    refine (show Code.wpIn _ _ _ _ _ _ _ from ?_)
    refine wpIn_skip ?_
    refine then_n ?_
    refine wpIn_region_lit ?_
    refine x_run tab hk (k := 3) (lv := []) (ks := [23]) (e' := [(23, .pointer (some ((⟨bp0, 0, none⟩ : Addr).add 4)))]) rfl trivial fun a hk => ?_
    refine x_op hk rfl ?_
    refine op_store tab hk (t := 3) (v := .int .i64 0) (b := bp0) (k := 4) (cs' := [.bool p0.private_, .bool p0.wrong, .bool p0.any, .bool p0.some, .int .i64 0, .slice Ap0_0 (p0.nums).length cp0_0]) rfl rfl rfl rfl rfl rfl f900019 rfl rfl fun w2 o3 st4 f900019_ => ?_
    replace f900000 := f900000.st st4 (by decide)
    replace hs := hs.locM st4 (by decide) hom
    replace f900019 := f900019_
    refine wpListIn_nil ?_
    obtain rfl := Option.some.inj H
    exact x_endG hk (rs := []) (vs := []) rfl trivial ⟨cl w oi o [1, 2] (fun l_ => if l_ = 1 then Lp0 else if l_ = 2 then Lp0_0 else 0) o3, Ap0_0, cp0_0, rfl, hs.closeM hoz (by decide) (fun l_ => if l_ = 1 then Lp0 else if l_ = 2 then Lp0_0 else 0), hs.closeM_ft (o := o) (ρ := fun l_ => if l_ = 1 then Lp0 else if l_ = 2 then Lp0_0 else 0) f900019 (lab_at hoa (i := 0) rfl) rfl, hs.closeM_ft (o := o) (ρ := fun l_ => if l_ = 1 then Lp0 else if l_ = 2 then Lp0_0 else 0) f900000 (lab_at hoa (i := 1) rfl) rfl, hcp0_0⟩
  · rw [b1] at hk H
    replace H := bifT H
    refine x_if hk (b := true) rfl ?_
    refine (show Code.wpIn _ _ _ _ _ _ _ from ?_)
    refine x_cut (fun a_ w_ => ∃ o197 : Nat → Nat, ∃ A198 : Option Addr, ∃ c199 : Nat, Kn 24 a_ [(0, .pointer (some ⟨bp0, 0, none⟩))] ∧ St [1, 2] w oi w_ o197 ∧ Ft (Own (encInt .i64) 3 (.slice A198 ((p0.nums ++ ([p0.n] : List Int))).length c199) (p0.nums ++ ([p0.n] : List Int))) w_ o197 2 ∧ Ft (Bx bp0 43 [.bool p0.private_, .bool p0.wrong, .bool p0.any, .bool p0.some, .int .i64 p0.n, .slice A198 ((p0.nums ++ ([p0.n] : List Int))).length c199]) w_ o197 1 ∧ ((p0.nums ++ ([p0.n] : List Int))).length ≤ c199 ∧ seq_order_push_j1 p0 = some r) ?_ ?_
    rotate_left
    · rintro a w202 ⟨o197, A198, c199, hk, hs, f200, f900019, hc201, H⟩
      rw [seq_order_push_j1] at H
      refine then_n ?_
      refine wpIn_region_lit ?_
      refine x_run tab hk (k := 3) (lv := []) (ks := [23]) (e' := [(23, .pointer (some ((⟨bp0, 0, none⟩ : Addr).add 4)))]) rfl trivial fun a hk => ?_
      refine x_op hk rfl ?_
      refine op_store tab hk (t := 3) (v := .int .i64 0) (b := bp0) (k := 4) (cs' := [.bool p0.private_, .bool p0.wrong, .bool p0.any, .bool p0.some, .int .i64 0, .slice A198 ((p0.nums ++ ([p0.n] : List Int))).length c199]) rfl rfl rfl rfl rfl rfl f900019 rfl rfl fun w203 o204 st205 f900019_ => ?_
      replace f200 := f200.st st205 (by decide)
      replace hs := hs.locM st205 (by decide) hom
      replace f900019 := f900019_
      refine wpListIn_nil ?_
      obtain rfl := Option.some.inj H
      exact x_endG hk (rs := []) (vs := []) rfl trivial ⟨cl w oi o [1, 2] (fun l_ => if l_ = 1 then Lp0 else if l_ = 2 then Lp0_0 else 0) o204, A198, c199, rfl, hs.closeM hoz (by decide) (fun l_ => if l_ = 1 then Lp0 else if l_ = 2 then Lp0_0 else 0), hs.closeM_ft (o := o) (ρ := fun l_ => if l_ = 1 then Lp0 else if l_ = 2 then Lp0_0 else 0) f900019 (lab_at hoa (i := 0) rfl) rfl, hs.closeM_ft (o := o) (ρ := fun l_ => if l_ = 1 then Lp0 else if l_ = 2 then Lp0_0 else 0) f200 (lab_at hoa (i := 1) rfl) rfl, hc201⟩
    obtain ⟨q232, H⟩ := ifS H
    refine xd_begin (o := oi) (fun W_ => True) mixed rfl rfl fun w288 st289 => ?_
    replace f900000 := f900000.st st289 (by decide)
    replace f900019 := f900019.st st289 (by decide)
    replace hs := hs.locM st289 (by decide) hom
    refine xd_abs fun G hG => ?_
    have N295 : ∀ (a_ : Act) (w_ : World), (∃ o293 : Nat → Nat, Kn 24 a_ [(0, .pointer (some ⟨bp0, 0, none⟩)), (8, .pointer (some ⟨bp0, 0, none⟩)), (12, .slice Ap0_0 (p0.nums).length cp0_0), (15, .pointer (some ((⟨bp0, 0, none⟩ : Addr).add 4)))] ∧ St [1, 2] w oi w_ o293 ∧ Ft (Own (encInt .i64) 3 (.slice Ap0_0 (p0.nums).length cp0_0) p0.nums) w_ o293 2 ∧ Ft (Bx bp0 43 [.bool p0.private_, .bool p0.wrong, .bool p0.any, .bool p0.some, .int .i64 p0.n, .slice Ap0_0 (p0.nums).length cp0_0]) w_ o293 1) → G 6 #[true, true, true, true, true, true, true, true, false, false, false, false, false, false] a_ w_ := by
      rintro a w294 ⟨o293, hk, hs, f900000, f900019⟩
      refine xd_of hG ?_
      refine xd_op hk (i := 8) (by kernel_rfl) rfl rfl ?_
      refine op_quiet tab hk (lv := [.int .i64 p0.n]) (v := .int .i64 p0.n) rfl ⟨(load1 tab rfl ((Bx.cell f900019.now 4).trans rfl)), trivial⟩ ?_
      have hk := hk.put 16 (.int .i64 p0.n) rfl
      refine ⟨.inr trivial, ?_⟩
      refine xd_op hk (i := 9) (by kernel_rfl) rfl rfl ?_
      refine op_slice (o := o293) tab hk (vs := [.int .i64 p0.n]) (cs := [.int .i64 p0.n]) rfl rfl rfl rfl rfl rfl rfl rfl rfl 18 fun bx299 w296 o297 st298 f300 => ?_
      replace f900000 := f900000.st st298 (by decide)
      replace f900019 := f900019.st st298 (by decide)
      replace hs := hs.locM st298 (by decide) hom
      have f301 : Ft (Own (encInt .i64) 3 (.slice (some ⟨bx299, 0, none⟩) (([p0.n] : List Int)).length 1) ([p0.n] : List Int)) w296 o297 18 := f300.imp fun _ h_ => Own.of_box h_ rfl (by simp)
      have hk := hk.put 17 (.slice (some ⟨bx299, 0, none⟩) (([p0.n] : List Int)).length 1) rfl
      refine ⟨.inr trivial, ?_⟩
      refine xd_op hk (i := 10) (by kernel_rfl) rfl rfl ?_
      refine op_append (o := o297) (E := (encInt .i64)) (xs := p0.nums) (ys := ([p0.n] : List Int)) tab hk rfl rfl rfl rfl rfl rfl rfl f900000 (Own.rd f301.now) q232 fun A305 c306 w302 o303 st304 f307 hc308 => ?_
      replace f301 := f301.st st304 (by decide)
      replace f900019 := f900019.st st304 (by decide)
      replace hs := hs.locM st304 (by decide) hom
      have hk := hk.put 18 (.slice A305 ((p0.nums ++ ([p0.n] : List Int))).length c306) rfl
      refine ⟨.inr trivial, ?_⟩
      refine xd_take tab hk (k := 1) (is := [11, 12]) (ls' := #[true, true, true, true, true, true, true, true, true, true, true, true, true, false]) (lv := []) (ks := [0, 18, 20]) (e' := [(0, .pointer (some ⟨bp0, 0, none⟩)), (18, .slice A305 ((p0.nums ++ ([p0.n] : List Int))).length c306), (20, .pointer (some ((⟨bp0, 0, none⟩ : Addr).add 5)))]) (by kernel_rfl) rfl rfl (by kernel_rfl) (np_then (np_then np_body)) trivial (fun W_ hS => trivial) fun a hk => ?_
      refine xd_op hk (i := 13) (by kernel_rfl) rfl rfl ?_
      refine op_store tab hk (t := 40) (v := .slice A305 ((p0.nums ++ ([p0.n] : List Int))).length c306) (b := bp0) (k := 5) (cs' := [.bool p0.private_, .bool p0.wrong, .bool p0.any, .bool p0.some, .int .i64 p0.n, .slice A305 ((p0.nums ++ ([p0.n] : List Int))).length c306]) rfl rfl rfl rfl rfl rfl f900019 rfl rfl fun w309 o310 st311 f900019_ => ?_
      replace f301 := f301.st st311 (by decide)
      replace f307 := f307.st st311 (by decide)
      replace hs := hs.locM st311 (by decide) hom
      replace f900019 := f900019_
      refine ⟨.inr trivial, ?_⟩
      refine xd_done (by kernel_rfl) ?_
      refine then_n ?_
      exact ⟨o310, A305, c306, (by exact Kn.pick (ks := [0]) hk rfl), hs, f307, f900019, hc308, H⟩
    have N323 : ∀ (a_ : Act) (w_ : World), (∃ o321 : Nat → Nat, Kn 24 a_ [(0, .pointer (some ⟨bp0, 0, none⟩)), (8, .pointer (some ⟨bp0, 0, none⟩)), (12, .slice Ap0_0 (p0.nums).length cp0_0), (16, .int .i64 p0.n)] ∧ St [1, 2] w oi w_ o321 ∧ Ft (Own (encInt .i64) 3 (.slice Ap0_0 (p0.nums).length cp0_0) p0.nums) w_ o321 2 ∧ Ft (Bx bp0 43 [.bool p0.private_, .bool p0.wrong, .bool p0.any, .bool p0.some, .int .i64 p0.n, .slice Ap0_0 (p0.nums).length cp0_0]) w_ o321 1) → G 5 #[true, true, true, true, true, true, true, true, true, false, false, false, false, false] a_ w_ := by
      rintro a w322 ⟨o321, hk, hs, f900000, f900019⟩
      refine xd_of hG ?_
      refine xd_op hk (i := 9) (by kernel_rfl) rfl rfl ?_
      refine op_slice (o := o321) tab hk (vs := [.int .i64 p0.n]) (cs := [.int .i64 p0.n]) rfl rfl rfl rfl rfl rfl rfl rfl rfl 19 fun bx327 w324 o325 st326 f328 => ?_
      replace f900000 := f900000.st st326 (by decide)
      replace f900019 := f900019.st st326 (by decide)
      replace hs := hs.locM st326 (by decide) hom
      have f329 : Ft (Own (encInt .i64) 3 (.slice (some ⟨bx327, 0, none⟩) (([p0.n] : List Int)).length 1) ([p0.n] : List Int)) w324 o325 19 := f328.imp fun _ h_ => Own.of_box h_ rfl (by simp)
      have hk := hk.put 17 (.slice (some ⟨bx327, 0, none⟩) (([p0.n] : List Int)).length 1) rfl
      refine ⟨.inr trivial, ?_⟩
      refine xd_op hk (i := 10) (by kernel_rfl) rfl rfl ?_
      refine op_append (o := o325) (E := (encInt .i64)) (xs := p0.nums) (ys := ([p0.n] : List Int)) tab hk rfl rfl rfl rfl rfl rfl rfl f900000 (Own.rd f329.now) q232 fun A333 c334 w330 o331 st332 f335 hc336 => ?_
      replace f329 := f329.st st332 (by decide)
      replace f900019 := f900019.st st332 (by decide)
      replace hs := hs.locM st332 (by decide) hom
      have hk := hk.put 18 (.slice A333 ((p0.nums ++ ([p0.n] : List Int))).length c334) rfl
      refine ⟨.inr trivial, ?_⟩
      refine xd_take tab hk (k := 1) (is := [11, 12]) (ls' := #[true, true, true, true, true, true, true, true, true, true, true, true, true, false]) (lv := []) (ks := [0, 18, 20]) (e' := [(0, .pointer (some ⟨bp0, 0, none⟩)), (18, .slice A333 ((p0.nums ++ ([p0.n] : List Int))).length c334), (20, .pointer (some ((⟨bp0, 0, none⟩ : Addr).add 5)))]) (by kernel_rfl) rfl rfl (by kernel_rfl) (np_then (np_then np_body)) trivial (fun W_ hS => trivial) fun a hk => ?_
      refine xd_op hk (i := 13) (by kernel_rfl) rfl rfl ?_
      refine op_store tab hk (t := 40) (v := .slice A333 ((p0.nums ++ ([p0.n] : List Int))).length c334) (b := bp0) (k := 5) (cs' := [.bool p0.private_, .bool p0.wrong, .bool p0.any, .bool p0.some, .int .i64 p0.n, .slice A333 ((p0.nums ++ ([p0.n] : List Int))).length c334]) rfl rfl rfl rfl rfl rfl f900019 rfl rfl fun w337 o338 st339 f900019_ => ?_
      replace f329 := f329.st st339 (by decide)
      replace f335 := f335.st st339 (by decide)
      replace hs := hs.locM st339 (by decide) hom
      replace f900019 := f900019_
      refine ⟨.inr trivial, ?_⟩
      refine xd_done (by kernel_rfl) ?_
      refine then_n ?_
      exact ⟨o338, A333, c334, (by exact Kn.pick (ks := [0]) hk rfl), hs, f335, f900019, hc336, H⟩
    have N361 : ∀ (a_ : Act) (w_ : World), (∃ o355 : Nat → Nat, ∃ A356 : Option Addr, ∃ c357 : Nat, Kn 24 a_ [(0, .pointer (some ⟨bp0, 0, none⟩)), (8, .pointer (some ⟨bp0, 0, none⟩)), (11, .pointer (some ((⟨bp0, 0, none⟩ : Addr).add 5))), (17, .slice A356 (([p0.n] : List Int)).length c357)] ∧ St [1, 2] w oi w_ o355 ∧ Ft (Own (encInt .i64) 3 (.slice A356 (([p0.n] : List Int)).length c357) ([p0.n] : List Int)) w_ o355 21 ∧ Ft (Own (encInt .i64) 3 (.slice Ap0_0 (p0.nums).length cp0_0) p0.nums) w_ o355 2 ∧ Ft (Bx bp0 43 [.bool p0.private_, .bool p0.wrong, .bool p0.any, .bool p0.some, .int .i64 p0.n, .slice Ap0_0 (p0.nums).length cp0_0]) w_ o355 1 ∧ (([p0.n] : List Int)).length ≤ c357) → G 5 #[true, true, true, true, false, true, true, true, true, true, false, false, false, false] a_ w_ := by
      rintro a w360 ⟨o355, A356, c357, hk, hs, f358, f900000, f900019, hc359⟩
      refine xd_of hG ?_
      refine xd_op hk (i := 4) (by kernel_rfl) rfl rfl ?_
      refine op_quiet tab hk (lv := [.slice Ap0_0 (p0.nums).length cp0_0]) (v := .slice Ap0_0 (p0.nums).length cp0_0) rfl ⟨(load1 tab rfl ((Bx.cell f900019.now 5).trans rfl)), trivial⟩ ?_
      have hk := hk.put 12 (.slice Ap0_0 (p0.nums).length cp0_0) rfl
      refine ⟨.inr trivial, ?_⟩
      refine xd_op hk (i := 10) (by kernel_rfl) rfl rfl ?_
      refine op_append (o := o355) (E := (encInt .i64)) (xs := p0.nums) (ys := ([p0.n] : List Int)) tab hk rfl rfl rfl rfl rfl rfl rfl f900000 (Own.rd f358.now) q232 fun A365 c366 w362 o363 st364 f367 hc368 => ?_
      replace f358 := f358.st st364 (by decide)
      replace f900019 := f900019.st st364 (by decide)
      replace hs := hs.locM st364 (by decide) hom
      have hk := hk.put 18 (.slice A365 ((p0.nums ++ ([p0.n] : List Int))).length c366) rfl
      refine ⟨.inr trivial, ?_⟩
      refine xd_take tab hk (k := 1) (is := [11, 12]) (ls' := #[true, true, true, true, true, true, true, true, true, true, true, true, true, false]) (lv := []) (ks := [0, 18, 20]) (e' := [(0, .pointer (some ⟨bp0, 0, none⟩)), (18, .slice A365 ((p0.nums ++ ([p0.n] : List Int))).length c366), (20, .pointer (some ((⟨bp0, 0, none⟩ : Addr).add 5)))]) (by kernel_rfl) rfl rfl (by kernel_rfl) (np_then (np_then np_body)) trivial (fun W_ hS => trivial) fun a hk => ?_
      refine xd_op hk (i := 13) (by kernel_rfl) rfl rfl ?_
      refine op_store tab hk (t := 40) (v := .slice A365 ((p0.nums ++ ([p0.n] : List Int))).length c366) (b := bp0) (k := 5) (cs' := [.bool p0.private_, .bool p0.wrong, .bool p0.any, .bool p0.some, .int .i64 p0.n, .slice A365 ((p0.nums ++ ([p0.n] : List Int))).length c366]) rfl rfl rfl rfl rfl rfl f900019 rfl rfl fun w369 o370 st371 f900019_ => ?_
      replace f358 := f358.st st371 (by decide)
      replace f367 := f367.st st371 (by decide)
      replace hs := hs.locM st371 (by decide) hom
      replace f900019 := f900019_
      refine ⟨.inr trivial, ?_⟩
      refine xd_done (by kernel_rfl) ?_
      refine then_n ?_
      exact ⟨o370, A365, c366, (by exact Kn.pick (ks := [0]) hk rfl), hs, f367, f900019, hc368, H⟩
    have N317 : ∀ (a_ : Act) (w_ : World), (∃ o315 : Nat → Nat, Kn 24 a_ [(0, .pointer (some ⟨bp0, 0, none⟩)), (8, .pointer (some ⟨bp0, 0, none⟩)), (11, .pointer (some ((⟨bp0, 0, none⟩ : Addr).add 5))), (16, .int .i64 p0.n)] ∧ St [1, 2] w oi w_ o315 ∧ Ft (Own (encInt .i64) 3 (.slice Ap0_0 (p0.nums).length cp0_0) p0.nums) w_ o315 2 ∧ Ft (Bx bp0 43 [.bool p0.private_, .bool p0.wrong, .bool p0.any, .bool p0.some, .int .i64 p0.n, .slice Ap0_0 (p0.nums).length cp0_0]) w_ o315 1) → G 6 #[true, true, true, true, false, true, true, true, true, false, false, false, false, false] a_ w_ := by
      rintro a w316 ⟨o315, hk, hs, f900000, f900019⟩
      refine xd_of hG ?_
      refine xd_each [4, 9] (by kernel_rfl) rfl ⟨?_, ?_, trivial⟩
      · refine xd_one hk rfl rfl ?_
        refine op_quiet tab hk (lv := [.slice Ap0_0 (p0.nums).length cp0_0]) (v := .slice Ap0_0 (p0.nums).length cp0_0) rfl ⟨(load1 tab rfl ((Bx.cell f900019.now 5).trans rfl)), trivial⟩ ?_
        have hk := hk.put 12 (.slice Ap0_0 (p0.nums).length cp0_0) rfl
        refine ⟨.inr trivial, ?_⟩
        exact xd_to hG rfl (N323 _ _ ⟨o315, (by exact Kn.pick (ks := [0, 8, 12, 16]) hk rfl), hs, f900000, f900019⟩)
      · refine xd_one hk rfl rfl ?_
        refine op_slice (o := o315) tab hk (vs := [.int .i64 p0.n]) (cs := [.int .i64 p0.n]) rfl rfl rfl rfl rfl rfl rfl rfl rfl 20 fun bx343 w340 o341 st342 f344 => ?_
        replace f900000 := f900000.st st342 (by decide)
        replace f900019 := f900019.st st342 (by decide)
        replace hs := hs.locM st342 (by decide) hom
        have f345 : Ft (Own (encInt .i64) 3 (.slice (some ⟨bx343, 0, none⟩) (([p0.n] : List Int)).length 1) ([p0.n] : List Int)) w340 o341 20 := f344.imp fun _ h_ => Own.of_box h_ rfl (by simp)
        have hk := hk.put 17 (.slice (some ⟨bx343, 0, none⟩) (([p0.n] : List Int)).length 1) rfl
        refine ⟨.inr trivial, ?_⟩
        exact xd_to hG rfl (N361 _ _ ⟨(fun b_ => (fun l_ => if l_ = 20 then 21 else l_) (o341 b_)), (some ⟨bx343, 0, none⟩), 1, (by exact Kn.pick (ks := [0, 8, 11, 17]) hk rfl), (hs.relabM hob (fun l_ => if l_ = 20 then 21 else l_) (by decide)), (f345.relab (fun l_ => if l_ = 20 then 21 else l_) rfl), (f900000.relab (fun l_ => if l_ = 20 then 21 else l_) rfl), (f900019.relab (fun l_ => if l_ = 20 then 21 else l_) rfl), (Nat.le_refl _)⟩)
    refine xd_of hG ?_
    refine xd_take tab hk (k := 7) (is := [0, 1, 2, 3, 5, 6, 7]) (ls' := #[true, true, true, true, false, true, true, true, false, false, false, false, false, false]) (lv := []) (ks := [0, 8, 11, 15]) (e' := [(0, .pointer (some ⟨bp0, 0, none⟩)), (8, .pointer (some ⟨bp0, 0, none⟩)), (11, .pointer (some ((⟨bp0, 0, none⟩ : Addr).add 5))), (15, .pointer (some ((⟨bp0, 0, none⟩ : Addr).add 4)))]) (by kernel_rfl) rfl rfl (by kernel_rfl) (np_then (np_then np_body)) trivial (fun W_ hS => trivial) fun a hk => ?_
    refine xd_each [4, 8] (by kernel_rfl) rfl ⟨?_, ?_, trivial⟩
    · refine xd_one hk rfl rfl ?_
      refine op_quiet tab hk (lv := [.slice Ap0_0 (p0.nums).length cp0_0]) (v := .slice Ap0_0 (p0.nums).length cp0_0) rfl ⟨(load1 tab rfl ((Bx.cell f900019.now 5).trans rfl)), trivial⟩ ?_
      have hk := hk.put 12 (.slice Ap0_0 (p0.nums).length cp0_0) rfl
      refine ⟨.inr trivial, ?_⟩
      exact xd_to hG rfl (N295 _ _ ⟨oi, (by exact Kn.pick (ks := [0, 8, 12, 15]) hk rfl), hs, f900000, f900019⟩)
    · refine xd_one hk rfl rfl ?_
      refine op_quiet tab hk (lv := [.int .i64 p0.n]) (v := .int .i64 p0.n) rfl ⟨(load1 tab rfl ((Bx.cell f900019.now 4).trans rfl)), trivial⟩ ?_
      have hk := hk.put 16 (.int .i64 p0.n) rfl
      refine ⟨.inr trivial, ?_⟩
      exact xd_to hG rfl (N317 _ _ ⟨oi, (by exact Kn.pick (ks := [0, 8, 11, 16]) hk rfl), hs, f900000, f900019⟩)

/-! (*tidewrack/seq.order).push -/
theorem seq_order_push_of48_1_calls (bp0 : Nat) (Ap0_0 : Option Addr) (cp0_0 : Nat) (Ap0_1 : Option Addr) (cp0_1 : Nat) (p0 : T47) (w : World) (o : Nat → Nat) (LF : Nat) (Lp0 : Nat) (hp0 : Ft (Bx bp0 48 [.int .i64 p0.state, .bool p0.order_private_, .bool p0.order_wrong, .bool p0.order_any, .bool p0.order_some, .int .i64 p0.order_n, .slice Ap0_0 (p0.order_nums).length cp0_0, .string p0.text, .int .u8 p0.runes_Lead, .int .i32 p0.runes_Rune, .int .i64 p0.runes_Need, .slice Ap0_1 (p0.out).length cp0_1]) w o Lp0) (Lp0_0 : Nat) (hp0_0 : Ft (Own (encInt .i64) 3 (.slice Ap0_0 (p0.order_nums).length cp0_0) p0.order_nums) w o Lp0_0) (hcp0_0 : (p0.order_nums).length ≤ cp0_0) (hd0 : ([LF, Lp0, Lp0_0] : List Nat).Nodup) (r : T42) (H : seq_order_push_of48_1 p0 = some r) :
    Calls Tryd.prog 108 #[.pointer (some ((⟨bp0, 0, none⟩ : Addr).add 1))] w (Ret fun v_ w' => ∃ o' : Nat → Nat, ∃ A0 : Option Addr, ∃ c0 : Nat, v_ = .tuple #[] ∧ St [Lp0, Lp0_0] w o w' o' ∧ Ft (Bx bp0 48 [.int .i64 p0.state, .bool r.private_, .bool r.wrong, .bool r.any, .bool r.some, .int .i64 r.n, .slice A0 (r.nums).length c0, .string p0.text, .int .u8 p0.runes_Lead, .int .i32 p0.runes_Rune, .int .i64 p0.runes_Need, .slice Ap0_1 (p0.out).length cp0_1]) w' o' Lp0 ∧ Ft (Own (encInt .i64) 3 (.slice A0 (r.nums).length c0) r.nums) w' o' Lp0_0 ∧ (r.nums).length ≤ c0) := by
  refine x_enter (vs := [.pointer (some ((⟨bp0, 0, none⟩ : Addr).add 1))]) Tryd.func108 rfl rfl rfl fun a hk => ?_
  obtain ⟨oi, hs0, h0, h1, hob, hoz, hoa⟩ := St.startM2 w o (m := 3) hd0 rfl
  have hs := hs0 [2, 3]
  have f900000 := h1 2 3 hp0_0 rfl rfl
  have f900019 := h1 1 2 hp0 rfl rfl
  clear h0 h1 hs0
  rw [seq_order_push_of48_1] at H
  refine x_seq ?_
  refine x_seq ?_
  refine wpIn_region_lit ?_
  refine x_run tab hk (k := 6) (lv := [.slice Ap0_0 (p0.order_nums).length cp0_0]) (ks := [0, 7]) (e' := [(0, .pointer (some ((⟨bp0, 0, none⟩ : Addr).add 1))), (7, .bool (decide (((p0.order_nums).length : Int) < (16 : Int))))]) rfl ⟨(load1 tab rfl ((Bx.cell f900019.now 6).trans rfl)), trivial⟩ fun a hk => ?_
  refine wpListIn_nil ?_
  refine then_n ?_
  cases b1 : (decide (((p0.order_nums).length : Int) < (16 : Int)))
  · rw [b1] at hk H
    replace H := bifF H
    refine x_if hk (b := false) rfl ?_
    refine (show Code.wpIn _ _ _ _ _ _ _ from ?_)
    refine wpIn_skip ?_
    refine then_n ?_
    refine wpIn_region_lit ?_
    refine x_run tab hk (k := 3) (lv := []) (ks := [23]) (e' := [(23, .pointer (some ((⟨bp0, 0, none⟩ : Addr).add 5)))]) rfl trivial fun a hk => ?_
    refine x_op hk rfl ?_
    refine op_store tab hk (t := 3) (v := .int .i64 0) (b := bp0) (k := 5) (cs' := [.int .i64 p0.state, .bool p0.order_private_, .bool p0.order_wrong, .bool p0.order_any, .bool p0.order_some, .int .i64 0, .slice Ap0_0 (p0.order_nums).length cp0_0, .string p0.text, .int .u8 p0.runes_Lead, .int .i32 p0.runes_Rune, .int .i64 p0.runes_Need, .slice Ap0_1 (p0.out).length cp0_1]) rfl rfl rfl rfl rfl rfl f900019 rfl rfl fun w2 o3 st4 f900019_ => ?_
    replace f900000 := f900000.st st4 (by decide)
    replace hs := hs.locQ st4 hob rfl
    replace f900019 := f900019_
    refine wpListIn_nil ?_
    obtain rfl := Option.some.inj H
    exact x_endG hk (rs := []) (vs := []) rfl trivial ⟨cl w oi o [2, 3] (fun l_ => if l_ = 1 then LF else if l_ = 2 then Lp0 else if l_ = 3 then Lp0_0 else 0) o3, Ap0_0, cp0_0, rfl, hs.closeF (Lm := [Lp0, Lp0_0]) (Sh := []) hoa rfl (fun l_ => if l_ = 1 then LF else if l_ = 2 then Lp0 else if l_ = 3 then Lp0_0 else 0), hs.closeM_ft (o := o) (ρ := fun l_ => if l_ = 1 then LF else if l_ = 2 then Lp0 else if l_ = 3 then Lp0_0 else 0) f900019 (lab_at hoa (i := 1) rfl) rfl, hs.closeM_ft (o := o) (ρ := fun l_ => if l_ = 1 then LF else if l_ = 2 then Lp0 else if l_ = 3 then Lp0_0 else 0) f900000 (lab_at hoa (i := 2) rfl) rfl, hcp0_0⟩
  · rw [b1] at hk H
    replace H := bifT H
    refine x_if hk (b := true) rfl ?_
    refine (show Code.wpIn _ _ _ _ _ _ _ from ?_)
    refine x_cut (fun a_ w_ => ∃ o197 : Nat → Nat, ∃ A198 : Option Addr, ∃ c199 : Nat, Kn 24 a_ [(0, .pointer (some ((⟨bp0, 0, none⟩ : Addr).add 1)))] ∧ St [2, 3] w oi w_ o197 ∧ Ft (Own (encInt .i64) 3 (.slice A198 ((p0.order_nums ++ ([p0.order_n] : List Int))).length c199) (p0.order_nums ++ ([p0.order_n] : List Int))) w_ o197 3 ∧ Ft (Bx bp0 48 [.int .i64 p0.state, .bool p0.order_private_, .bool p0.order_wrong, .bool p0.order_any, .bool p0.order_some, .int .i64 p0.order_n, .slice A198 ((p0.order_nums ++ ([p0.order_n] : List Int))).length c199, .string p0.text, .int .u8 p0.runes_Lead, .int .i32 p0.runes_Rune, .int .i64 p0.runes_Need, .slice Ap0_1 (p0.out).length cp0_1]) w_ o197 2 ∧ ((p0.order_nums ++ ([p0.order_n] : List Int))).length ≤ c199 ∧ seq_order_push_of48_1_j1 p0 = some r) ?_ ?_
    rotate_left
    · rintro a w202 ⟨o197, A198, c199, hk, hs, f200, f900019, hc201, H⟩
      rw [seq_order_push_of48_1_j1] at H
      refine then_n ?_
      refine wpIn_region_lit ?_
      refine x_run tab hk (k := 3) (lv := []) (ks := [23]) (e' := [(23, .pointer (some ((⟨bp0, 0, none⟩ : Addr).add 5)))]) rfl trivial fun a hk => ?_
      refine x_op hk rfl ?_
      refine op_store tab hk (t := 3) (v := .int .i64 0) (b := bp0) (k := 5) (cs' := [.int .i64 p0.state, .bool p0.order_private_, .bool p0.order_wrong, .bool p0.order_any, .bool p0.order_some, .int .i64 0, .slice A198 ((p0.order_nums ++ ([p0.order_n] : List Int))).length c199, .string p0.text, .int .u8 p0.runes_Lead, .int .i32 p0.runes_Rune, .int .i64 p0.runes_Need, .slice Ap0_1 (p0.out).length cp0_1]) rfl rfl rfl rfl rfl rfl f900019 rfl rfl fun w203 o204 st205 f900019_ => ?_
      replace f200 := f200.st st205 (by decide)
      replace hs := hs.locQ st205 hob rfl
      replace f900019 := f900019_
      refine wpListIn_nil ?_
      obtain rfl := Option.some.inj H
      exact x_endG hk (rs := []) (vs := []) rfl trivial ⟨cl w oi o [2, 3] (fun l_ => if l_ = 1 then LF else if l_ = 2 then Lp0 else if l_ = 3 then Lp0_0 else 0) o204, A198, c199, rfl, hs.closeF (Lm := [Lp0, Lp0_0]) (Sh := []) hoa rfl (fun l_ => if l_ = 1 then LF else if l_ = 2 then Lp0 else if l_ = 3 then Lp0_0 else 0), hs.closeM_ft (o := o) (ρ := fun l_ => if l_ = 1 then LF else if l_ = 2 then Lp0 else if l_ = 3 then Lp0_0 else 0) f900019 (lab_at hoa (i := 1) rfl) rfl, hs.closeM_ft (o := o) (ρ := fun l_ => if l_ = 1 then LF else if l_ = 2 then Lp0 else if l_ = 3 then Lp0_0 else 0) f200 (lab_at hoa (i := 2) rfl) rfl, hc201⟩
    obtain ⟨q232, H⟩ := ifS H
    refine xd_begin (o := oi) (fun W_ => True) mixed rfl rfl fun w288 st289 => ?_
    replace f900000 := f900000.st st289 (by decide)
    replace f900019 := f900019.st st289 (by decide)
    replace hs := hs.locQ st289 hob rfl
    refine xd_abs fun G hG => ?_
    have N295 : ∀ (a_ : Act) (w_ : World), (∃ o293 : Nat → Nat, Kn 24 a_ [(0, .pointer (some ((⟨bp0, 0, none⟩ : Addr).add 1))), (8, .pointer (some ((⟨bp0, 0, none⟩ : Addr).add 1))), (12, .slice Ap0_0 (p0.order_nums).length cp0_0), (15, .pointer (some ((⟨bp0, 0, none⟩ : Addr).add 5)))] ∧ St [2, 3] w oi w_ o293 ∧ Ft (Own (encInt .i64) 3 (.slice Ap0_0 (p0.order_nums).length cp0_0) p0.order_nums) w_ o293 3 ∧ Ft (Bx bp0 48 [.int .i64 p0.state, .bool p0.order_private_, .bool p0.order_wrong, .bool p0.order_any, .bool p0.order_some, .int .i64 p0.order_n, .slice Ap0_0 (p0.order_nums).length cp0_0, .string p0.text, .int .u8 p0.runes_Lead, .int .i32 p0.runes_Rune, .int .i64 p0.runes_Need, .slice Ap0_1 (p0.out).length cp0_1]) w_ o293 2) → G 6 #[true, true, true, true, true, true, true, true, false, false, false, false, false, false] a_ w_ := by
      rintro a w294 ⟨o293, hk, hs, f900000, f900019⟩
      refine xd_of hG ?_
      refine xd_op hk (i := 8) (by kernel_rfl) rfl rfl ?_
      refine op_quiet tab hk (lv := [.int .i64 p0.order_n]) (v := .int .i64 p0.order_n) rfl ⟨(load1 tab rfl ((Bx.cell f900019.now 5).trans rfl)), trivial⟩ ?_
      have hk := hk.put 16 (.int .i64 p0.order_n) rfl
      refine ⟨.inr trivial, ?_⟩
      refine xd_op hk (i := 9) (by kernel_rfl) rfl rfl ?_
      refine op_slice (o := o293) tab hk (vs := [.int .i64 p0.order_n]) (cs := [.int .i64 p0.order_n]) rfl rfl rfl rfl rfl rfl rfl rfl rfl 19 fun bx299 w296 o297 st298 f300 => ?_
      replace f900000 := f900000.st st298 (by decide)
      replace f900019 := f900019.st st298 (by decide)
      replace hs := hs.locQ st298 hob rfl
      have f301 : Ft (Own (encInt .i64) 3 (.slice (some ⟨bx299, 0, none⟩) (([p0.order_n] : List Int)).length 1) ([p0.order_n] : List Int)) w296 o297 19 := f300.imp fun _ h_ => Own.of_box h_ rfl (by simp)
      have hk := hk.put 17 (.slice (some ⟨bx299, 0, none⟩) (([p0.order_n] : List Int)).length 1) rfl
      refine ⟨.inr trivial, ?_⟩
      refine xd_op hk (i := 10) (by kernel_rfl) rfl rfl ?_
      refine op_append (o := o297) (E := (encInt .i64)) (xs := p0.order_nums) (ys := ([p0.order_n] : List Int)) tab hk rfl rfl rfl rfl rfl rfl rfl f900000 (Own.rd f301.now) q232 fun A305 c306 w302 o303 st304 f307 hc308 => ?_
      replace f301 := f301.st st304 (by decide)
      replace f900019 := f900019.st st304 (by decide)
      replace hs := hs.locQ st304 hob rfl
      have hk := hk.put 18 (.slice A305 ((p0.order_nums ++ ([p0.order_n] : List Int))).length c306) rfl
      refine ⟨.inr trivial, ?_⟩
      refine xd_take tab hk (k := 1) (is := [11, 12]) (ls' := #[true, true, true, true, true, true, true, true, true, true, true, true, true, false]) (lv := []) (ks := [0, 18, 20]) (e' := [(0, .pointer (some ((⟨bp0, 0, none⟩ : Addr).add 1))), (18, .slice A305 ((p0.order_nums ++ ([p0.order_n] : List Int))).length c306), (20, .pointer (some ((⟨bp0, 0, none⟩ : Addr).add 6)))]) (by kernel_rfl) rfl rfl (by kernel_rfl) (np_then (np_then np_body)) trivial (fun W_ hS => trivial) fun a hk => ?_
      refine xd_op hk (i := 13) (by kernel_rfl) rfl rfl ?_
      refine op_store tab hk (t := 40) (v := .slice A305 ((p0.order_nums ++ ([p0.order_n] : List Int))).length c306) (b := bp0) (k := 6) (cs' := [.int .i64 p0.state, .bool p0.order_private_, .bool p0.order_wrong, .bool p0.order_any, .bool p0.order_some, .int .i64 p0.order_n, .slice A305 ((p0.order_nums ++ ([p0.order_n] : List Int))).length c306, .string p0.text, .int .u8 p0.runes_Lead, .int .i32 p0.runes_Rune, .int .i64 p0.runes_Need, .slice Ap0_1 (p0.out).length cp0_1]) rfl rfl rfl rfl rfl rfl f900019 rfl rfl fun w309 o310 st311 f900019_ => ?_
      replace f301 := f301.st st311 (by decide)
      replace f307 := f307.st st311 (by decide)
      replace hs := hs.locQ st311 hob rfl
      replace f900019 := f900019_
      refine ⟨.inr trivial, ?_⟩
      refine xd_done (by kernel_rfl) ?_
      refine then_n ?_
      exact ⟨o310, A305, c306, (by exact Kn.pick (ks := [0]) hk rfl), hs, f307, f900019, hc308, H⟩
    have N323 : ∀ (a_ : Act) (w_ : World), (∃ o321 : Nat → Nat, Kn 24 a_ [(0, .pointer (some ((⟨bp0, 0, none⟩ : Addr).add 1))), (8, .pointer (some ((⟨bp0, 0, none⟩ : Addr).add 1))), (12, .slice Ap0_0 (p0.order_nums).length cp0_0), (16, .int .i64 p0.order_n)] ∧ St [2, 3] w oi w_ o321 ∧ Ft (Own (encInt .i64) 3 (.slice Ap0_0 (p0.order_nums).length cp0_0) p0.order_nums) w_ o321 3 ∧ Ft (Bx bp0 48 [.int .i64 p0.state, .bool p0.order_private_, .bool p0.order_wrong, .bool p0.order_any, .bool p0.order_some, .int .i64 p0.order_n, .slice Ap0_0 (p0.order_nums).length cp0_0, .string p0.text, .int .u8 p0.runes_Lead, .int .i32 p0.runes_Rune, .int .i64 p0.runes_Need, .slice Ap0_1 (p0.out).length cp0_1]) w_ o321 2) → G 5 #[true, true, true, true, true, true, true, true, true, false, false, false, false, false] a_ w_ := by
      rintro a w322 ⟨o321, hk, hs, f900000, f900019⟩
      refine xd_of hG ?_
      refine xd_op hk (i := 9) (by kernel_rfl) rfl rfl ?_
      refine op_slice (o := o321) tab hk (vs := [.int .i64 p0.order_n]) (cs := [.int .i64 p0.order_n]) rfl rfl rfl rfl rfl rfl rfl rfl rfl 20 fun bx327 w324 o325 st326 f328 => ?_
      replace f900000 := f900000.st st326 (by decide)
      replace f900019 := f900019.st st326 (by decide)
      replace hs := hs.locQ st326 hob rfl
      have f329 : Ft (Own (encInt .i64) 3 (.slice (some ⟨bx327, 0, none⟩) (([p0.order_n] : List Int)).length 1) ([p0.order_n] : List Int)) w324 o325 20 := f328.imp fun _ h_ => Own.of_box h_ rfl (by simp)
      have hk := hk.put 17 (.slice (some ⟨bx327, 0, none⟩) (([p0.order_n] : List Int)).length 1) rfl
      refine ⟨.inr trivial, ?_⟩
      refine xd_op hk (i := 10) (by kernel_rfl) rfl rfl ?_
      refine op_append (o := o325) (E := (encInt .i64)) (xs := p0.order_nums) (ys := ([p0.order_n] : List Int)) tab hk rfl rfl rfl rfl rfl rfl rfl f900000 (Own.rd f329.now) q232 fun A333 c334 w330 o331 st332 f335 hc336 => ?_
      replace f329 := f329.st st332 (by decide)
      replace f900019 := f900019.st st332 (by decide)
      replace hs := hs.locQ st332 hob rfl
      have hk := hk.put 18 (.slice A333 ((p0.order_nums ++ ([p0.order_n] : List Int))).length c334) rfl
      refine ⟨.inr trivial, ?_⟩
      refine xd_take tab hk (k := 1) (is := [11, 12]) (ls' := #[true, true, true, true, true, true, true, true, true, true, true, true, true, false]) (lv := []) (ks := [0, 18, 20]) (e' := [(0, .pointer (some ((⟨bp0, 0, none⟩ : Addr).add 1))), (18, .slice A333 ((p0.order_nums ++ ([p0.order_n] : List Int))).length c334), (20, .pointer (some ((⟨bp0, 0, none⟩ : Addr).add 6)))]) (by kernel_rfl) rfl rfl (by kernel_rfl) (np_then (np_then np_body)) trivial (fun W_ hS => trivial) fun a hk => ?_
      refine xd_op hk (i := 13) (by kernel_rfl) rfl rfl ?_
      refine op_store tab hk (t := 40) (v := .slice A333 ((p0.order_nums ++ ([p0.order_n] : List Int))).length c334) (b := bp0) (k := 6) (cs' := [.int .i64 p0.state, .bool p0.order_private_, .bool p0.order_wrong, .bool p0.order_any, .bool p0.order_some, .int .i64 p0.order_n, .slice A333 ((p0.order_nums ++ ([p0.order_n] : List Int))).length c334, .string p0.text, .int .u8 p0.runes_Lead, .int .i32 p0.runes_Rune, .int .i64 p0.runes_Need, .slice Ap0_1 (p0.out).length cp0_1]) rfl rfl rfl rfl rfl rfl f900019 rfl rfl fun w337 o338 st339 f900019_ => ?_
      replace f329 := f329.st st339 (by decide)
      replace f335 := f335.st st339 (by decide)
      replace hs := hs.locQ st339 hob rfl
      replace f900019 := f900019_
      refine ⟨.inr trivial, ?_⟩
      refine xd_done (by kernel_rfl) ?_
      refine then_n ?_
      exact ⟨o338, A333, c334, (by exact Kn.pick (ks := [0]) hk rfl), hs, f335, f900019, hc336, H⟩
    have N361 : ∀ (a_ : Act) (w_ : World), (∃ o355 : Nat → Nat, ∃ A356 : Option Addr, ∃ c357 : Nat, Kn 24 a_ [(0, .pointer (some ((⟨bp0, 0, none⟩ : Addr).add 1))), (8, .pointer (some ((⟨bp0, 0, none⟩ : Addr).add 1))), (11, .pointer (some ((⟨bp0, 0, none⟩ : Addr).add 6))), (17, .slice A356 (([p0.order_n] : List Int)).length c357)] ∧ St [2, 3] w oi w_ o355 ∧ Ft (Own (encInt .i64) 3 (.slice A356 (([p0.order_n] : List Int)).length c357) ([p0.order_n] : List Int)) w_ o355 22 ∧ Ft (Own (encInt .i64) 3 (.slice Ap0_0 (p0.order_nums).length cp0_0) p0.order_nums) w_ o355 3 ∧ Ft (Bx bp0 48 [.int .i64 p0.state, .bool p0.order_private_, .bool p0.order_wrong, .bool p0.order_any, .bool p0.order_some, .int .i64 p0.order_n, .slice Ap0_0 (p0.order_nums).length cp0_0, .string p0.text, .int .u8 p0.runes_Lead, .int .i32 p0.runes_Rune, .int .i64 p0.runes_Need, .slice Ap0_1 (p0.out).length cp0_1]) w_ o355 2 ∧ (([p0.order_n] : List Int)).length ≤ c357) → G 5 #[true, true, true, true, false, true, true, true, true, true, false, false, false, false] a_ w_ := by
      rintro a w360 ⟨o355, A356, c357, hk, hs, f358, f900000, f900019, hc359⟩
      refine xd_of hG ?_
      refine xd_op hk (i := 4) (by kernel_rfl) rfl rfl ?_
      refine op_quiet tab hk (lv := [.slice Ap0_0 (p0.order_nums).length cp0_0]) (v := .slice Ap0_0 (p0.order_nums).length cp0_0) rfl ⟨(load1 tab rfl ((Bx.cell f900019.now 6).trans rfl)), trivial⟩ ?_
      have hk := hk.put 12 (.slice Ap0_0 (p0.order_nums).length cp0_0) rfl
      refine ⟨.inr trivial, ?_⟩
      refine xd_op hk (i := 10) (by kernel_rfl) rfl rfl ?_
      refine op_append (o := o355) (E := (encInt .i64)) (xs := p0.order_nums) (ys := ([p0.order_n] : List Int)) tab hk rfl rfl rfl rfl rfl rfl rfl f900000 (Own.rd f358.now) q232 fun A365 c366 w362 o363 st364 f367 hc368 => ?_
      replace f358 := f358.st st364 (by decide)
      replace f900019 := f900019.st st364 (by decide)
      replace hs := hs.locQ st364 hob rfl
      have hk := hk.put 18 (.slice A365 ((p0.order_nums ++ ([p0.order_n] : List Int))).length c366) rfl
      refine ⟨.inr trivial, ?_⟩
      refine xd_take tab hk (k := 1) (is := [11, 12]) (ls' := #[true, true, true, true, true, true, true, true, true, true, true, true, true, false]) (lv := []) (ks := [0, 18, 20]) (e' := [(0, .pointer (some ((⟨bp0, 0, none⟩ : Addr).add 1))), (18, .slice A365 ((p0.order_nums ++ ([p0.order_n] : List Int))).length c366), (20, .pointer (some ((⟨bp0, 0, none⟩ : Addr).add 6)))]) (by kernel_rfl) rfl rfl (by kernel_rfl) (np_then (np_then np_body)) trivial (fun W_ hS => trivial) fun a hk => ?_
      refine xd_op hk (i := 13) (by kernel_rfl) rfl rfl ?_
      refine op_store tab hk (t := 40) (v := .slice A365 ((p0.order_nums ++ ([p0.order_n] : List Int))).length c366) (b := bp0) (k := 6) (cs' := [.int .i64 p0.state, .bool p0.order_private_, .bool p0.order_wrong, .bool p0.order_any, .bool p0.order_some, .int .i64 p0.order_n, .slice A365 ((p0.order_nums ++ ([p0.order_n] : List Int))).length c366, .string p0.text, .int .u8 p0.runes_Lead, .int .i32 p0.runes_Rune, .int .i64 p0.runes_Need, .slice Ap0_1 (p0.out).length cp0_1]) rfl rfl rfl rfl rfl rfl f900019 rfl rfl fun w369 o370 st371 f900019_ => ?_
      replace f358 := f358.st st371 (by decide)
      replace f367 := f367.st st371 (by decide)
      replace hs := hs.locQ st371 hob rfl
      replace f900019 := f900019_
      refine ⟨.inr trivial, ?_⟩
      refine xd_done (by kernel_rfl) ?_
      refine then_n ?_
      exact ⟨o370, A365, c366, (by exact Kn.pick (ks := [0]) hk rfl), hs, f367, f900019, hc368, H⟩
    have N317 : ∀ (a_ : Act) (w_ : World), (∃ o315 : Nat → Nat, Kn 24 a_ [(0, .pointer (some ((⟨bp0, 0, none⟩ : Addr).add 1))), (8, .pointer (some ((⟨bp0, 0, none⟩ : Addr).add 1))), (11, .pointer (some ((⟨bp0, 0, none⟩ : Addr).add 6))), (16, .int .i64 p0.order_n)] ∧ St [2, 3] w oi w_ o315 ∧ Ft (Own (encInt .i64) 3 (.slice Ap0_0 (p0.order_nums).length cp0_0) p0.order_nums) w_ o315 3 ∧ Ft (Bx bp0 48 [.int .i64 p0.state, .bool p0.order_private_, .bool p0.order_wrong, .bool p0.order_any, .bool p0.order_some, .int .i64 p0.order_n, .slice Ap0_0 (p0.order_nums).length cp0_0, .string p0.text, .int .u8 p0.runes_Lead, .int .i32 p0.runes_Rune, .int .i64 p0.runes_Need, .slice Ap0_1 (p0.out).length cp0_1]) w_ o315 2) → G 6 #[true, true, true, true, false, true, true, true, true, false, false, false, false, false] a_ w_ := by
      rintro a w316 ⟨o315, hk, hs, f900000, f900019⟩
      refine xd_of hG ?_
      refine xd_each [4, 9] (by kernel_rfl) rfl ⟨?_, ?_, trivial⟩
      · refine xd_one hk rfl rfl ?_
        refine op_quiet tab hk (lv := [.slice Ap0_0 (p0.order_nums).length cp0_0]) (v := .slice Ap0_0 (p0.order_nums).length cp0_0) rfl ⟨(load1 tab rfl ((Bx.cell f900019.now 6).trans rfl)), trivial⟩ ?_
        have hk := hk.put 12 (.slice Ap0_0 (p0.order_nums).length cp0_0) rfl
        refine ⟨.inr trivial, ?_⟩
        exact xd_to hG rfl (N323 _ _ ⟨o315, (by exact Kn.pick (ks := [0, 8, 12, 16]) hk rfl), hs, f900000, f900019⟩)
      · refine xd_one hk rfl rfl ?_
        refine op_slice (o := o315) tab hk (vs := [.int .i64 p0.order_n]) (cs := [.int .i64 p0.order_n]) rfl rfl rfl rfl rfl rfl rfl rfl rfl 21 fun bx343 w340 o341 st342 f344 => ?_
        replace f900000 := f900000.st st342 (by decide)
        replace f900019 := f900019.st st342 (by decide)
        replace hs := hs.locQ st342 hob rfl
        have f345 : Ft (Own (encInt .i64) 3 (.slice (some ⟨bx343, 0, none⟩) (([p0.order_n] : List Int)).length 1) ([p0.order_n] : List Int)) w340 o341 21 := f344.imp fun _ h_ => Own.of_box h_ rfl (by simp)
        have hk := hk.put 17 (.slice (some ⟨bx343, 0, none⟩) (([p0.order_n] : List Int)).length 1) rfl
        refine ⟨.inr trivial, ?_⟩
        exact xd_to hG rfl (N361 _ _ ⟨(fun b_ => (fun l_ => if l_ = 21 then 22 else l_) (o341 b_)), (some ⟨bx343, 0, none⟩), 1, (by exact Kn.pick (ks := [0, 8, 11, 17]) hk rfl), (hs.relabM hob (fun l_ => if l_ = 21 then 22 else l_) (by decide)), (f345.relab (fun l_ => if l_ = 21 then 22 else l_) rfl), (f900000.relab (fun l_ => if l_ = 21 then 22 else l_) rfl), (f900019.relab (fun l_ => if l_ = 21 then 22 else l_) rfl), (Nat.le_refl _)⟩)
    refine xd_of hG ?_
    refine xd_take tab hk (k := 7) (is := [0, 1, 2, 3, 5, 6, 7]) (ls' := #[true, true, true, true, false, true, true, true, false, false, false, false, false, false]) (lv := []) (ks := [0, 8, 11, 15]) (e' := [(0, .pointer (some ((⟨bp0, 0, none⟩ : Addr).add 1))), (8, .pointer (some ((⟨bp0, 0, none⟩ : Addr).add 1))), (11, .pointer (some ((⟨bp0, 0, none⟩ : Addr).add 6))), (15, .pointer (some ((⟨bp0, 0, none⟩ : Addr).add 5)))]) (by kernel_rfl) rfl rfl (by kernel_rfl) (np_then (np_then np_body)) trivial (fun W_ hS => trivial) fun a hk => ?_
    refine xd_each [4, 8] (by kernel_rfl) rfl ⟨?_, ?_, trivial⟩
    · refine xd_one hk rfl rfl ?_
      refine op_quiet tab hk (lv := [.slice Ap0_0 (p0.order_nums).length cp0_0]) (v := .slice Ap0_0 (p0.order_nums).length cp0_0) rfl ⟨(load1 tab rfl ((Bx.cell f900019.now 6).trans rfl)), trivial⟩ ?_
      have hk := hk.put 12 (.slice Ap0_0 (p0.order_nums).length cp0_0) rfl
      refine ⟨.inr trivial, ?_⟩
      exact xd_to hG rfl (N295 _ _ ⟨oi, (by exact Kn.pick (ks := [0, 8, 12, 15]) hk rfl), hs, f900000, f900019⟩)
    · refine xd_one hk rfl rfl ?_
      refine op_quiet tab hk (lv := [.int .i64 p0.order_n]) (v := .int .i64 p0.order_n) rfl ⟨(load1 tab rfl ((Bx.cell f900019.now 5).trans rfl)), trivial⟩ ?_
      have hk := hk.put 16 (.int .i64 p0.order_n) rfl
      refine ⟨.inr trivial, ?_⟩
      exact xd_to hG rfl (N317 _ _ ⟨oi, (by exact Kn.pick (ks := [0, 8, 11, 16]) hk rfl), hs, f900000, f900019⟩)

/-! (*tidewrack/seq.Parser).finish -/
theorem seq_Parser_finish_calls (bp0 : Nat) (Ap0_0 : Option Addr) (cp0_0 : Nat) (Ap0_1 : Option Addr) (cp0_1 : Nat) (p0 : T47) (p1 : Int) (w : World) (o : Nat → Nat) (LF : Nat) (Lp0 : Nat) (hp0 : Ft (Bx bp0 48 [.int .i64 p0.state, .bool p0.order_private_, .bool p0.order_wrong, .bool p0.order_any, .bool p0.order_some, .int .i64 p0.order_n, .slice Ap0_0 (p0.order_nums).length cp0_0, .string p0.text, .int .u8 p0.runes_Lead, .int .i32 p0.runes_Rune, .int .i64 p0.runes_Need, .slice Ap0_1 (p0.out).length cp0_1]) w o Lp0) (Lp0_0 : Nat) (hp0_0 : Ft (Own (encInt .i64) 3 (.slice Ap0_0 (p0.order_nums).length cp0_0) p0.order_nums) w o Lp0_0) (hcp0_0 : (p0.order_nums).length ≤ cp0_0) (Lp0_1 : Nat) (hp0_1 : NOwn dT50 51 Ap0_1 cp0_1 p0.out w o Lp0_1 LF) (hcp0_1 : (p0.out).length ≤ cp0_1) (hd0 : ([LF, Lp0, Lp0_0, Lp0_1] : List Nat).Nodup) (r : T47) (H : seq_Parser_finish p0 p1 = some r) :
    Calls Tryd.prog 109 #[.pointer (some ⟨bp0, 0, none⟩), .int .u8 p1] w (Ret fun v_ w' => ∃ o' : Nat → Nat, ∃ A0 : Option Addr, ∃ c0 : Nat, ∃ A1 : Option Addr, ∃ c1 : Nat, v_ = .tuple #[] ∧ St [Lp0, Lp0_0, Lp0_1] w o w' o' ∧ Ft (Bx bp0 48 [.int .i64 r.state, .bool r.order_private_, .bool r.order_wrong, .bool r.order_any, .bool r.order_some, .int .i64 r.order_n, .slice A0 (r.order_nums).length c0, .string r.text, .int .u8 r.runes_Lead, .int .i32 r.runes_Rune, .int .i64 r.runes_Need, .slice A1 (r.out).length c1]) w' o' Lp0 ∧ CO (encInt .i64) 3 A0 c0 (r.order_nums) (r.state == (3 : Int)) w' o' Lp0_0 LF ∧ (r.order_nums).length ≤ c0 ∧ NOwn dT50 51 A1 c1 r.out w' o' Lp0_1 LF ∧ (r.out).length ≤ c1) := by
  refine x_enter (vs := [.pointer (some ⟨bp0, 0, none⟩), .int .u8 p1]) Tryd.func109 rfl rfl rfl fun a hk => ?_
  obtain ⟨oi, hs0, h0, h1, hob, hoz, hoa⟩ := St.startM2 w o (m := 4) hd0 rfl
  have hs := hs0 [2, 3, 4]
  have f900000 := h1 2 3 hp0_0 rfl rfl
  have f900001 := hp0_1.conv (fun _ h_ => h1 3 4 h_ rfl rfl) (fun _ h_ => h1 0 1 h_ rfl rfl)
  have f900019 := h1 1 2 hp0 rfl rfl
  clear h0 h1 hs0
  rw [seq_Parser_finish] at H
  refine x_seq ?_
  refine wpIn_region_lit ?_
  refine x_run tab hk (k := 3) (lv := []) (ks := [0, 1, 6]) (e' := [(0, .pointer (some ⟨bp0, 0, none⟩)), (1, .int .u8 p1), (6, .pointer (some ⟨bp0, 0, none⟩))]) rfl trivial fun a hk => ?_
  refine x_op hk rfl ?_
  refine op_store tab hk (t := 3) (v := .int .i64 0) (b := bp0) (k := 0) (cs' := [.int .i64 0, .bool p0.order_private_, .bool p0.order_wrong, .bool p0.order_any, .bool p0.order_some, .int .i64 p0.order_n, .slice Ap0_0 (p0.order_nums).length cp0_0, .string p0.text, .int .u8 p0.runes_Lead, .int .i32 p0.runes_Rune, .int .i64 p0.runes_Need, .slice Ap0_1 (p0.out).length cp0_1]) rfl rfl rfl rfl rfl rfl f900019 rfl rfl fun w1 o2 st3 f900019_ => ?_
  replace f900000 := f900000.st st3 (by decide)
  replace f900001 := f900001.st st3 (by decide)
  replace hs := hs.locQ st3 hob rfl
  replace f900019 := f900019_
  refine wpListIn_nil ?_
  refine then_n ?_
  refine x_seq ?_
  refine x_seq ?_
  refine wpIn_region_lit ?_
  refine x_run tab hk (k := 5) (lv := [.bool p0.order_wrong]) (ks := [0, 1, 11]) (e' := [(0, .pointer (some ⟨bp0, 0, none⟩)), (1, .int .u8 p1), (11, .bool p0.order_wrong)]) rfl ⟨(load1 tab rfl ((Bx.cell f900019.now 2).trans rfl)), trivial⟩ fun a hk => ?_
  refine wpListIn_nil ?_
  refine then_n ?_
  cases b4 : p0.order_wrong
  · rw [b4] at hk H
    replace H := bifF H
    rw [b4] at f900019
    refine x_if hk (b := false) rfl ?_
    refine (show Code.wpIn _ _ _ _ _ _ _ from ?_)
    refine wpIn_skip ?_
    refine then_n ?_
    refine x_mid (fun a_ w_ => ∃ o34 : Nat → Nat, ∃ x35 : Bool, ∃ x36 : Bool, ∃ x37 : Bool, ∃ x38 : Bool, ∃ x39 : Int, ∃ A40 : Option Addr, ∃ c41 : Nat, ∃ l42 : List Int, Kn 35 a_ [(0, .pointer (some ⟨bp0, 0, none⟩)), (1, .int .u8 p1)] ∧ St [2, 3, 4] w oi w_ o34 ∧ Ft (Own (encInt .i64) 3 (.slice A40 (l42).length c41) l42) w_ o34 3 ∧ NOwn dT50 51 Ap0_1 cp0_1 p0.out w_ o34 4 1 ∧ Ft (Bx bp0 48 [.int .i64 0, .bool x35, .bool x36, .bool x37, .bool x38, .int .i64 x39, .slice A40 (l42).length c41, .string p0.text, .int .u8 p0.runes_Lead, .int .i32 p0.runes_Rune, .int .i64 p0.runes_Need, .slice Ap0_1 (p0.out).length cp0_1]) w_ o34 2 ∧ (l42).length ≤ c41 ∧ seq_Parser_finish_j1 p0 p1 x35 x36 x37 x38 x39 l42 = some r) ?_ ?_
    rotate_left
    · rintro a w45 ⟨o34, x35, x36, x37, x38, x39, A40, c41, l42, hk, hs, f43, f900001, f900019, hc44, H⟩
      rw [seq_Parser_finish_j1] at H
      refine x_cut (fun a_ w_ => ∃ o210 : Nat → Nat, ∃ x211 : Int, ∃ x212 : Bool, ∃ x213 : Bool, ∃ x214 : Bool, ∃ x215 : Bool, ∃ x216 : Int, ∃ A217 : Option Addr, ∃ c218 : Nat, ∃ l219 : List Int, ∃ x222 : ByteArray, ∃ x223 : Int, ∃ x224 : Int, ∃ x225 : Int, ∃ A226 : Option Addr, ∃ c227 : Nat, ∃ l228 : List T50, Kn 35 a_ [] ∧ St [2, 3, 4] w oi w_ o210 ∧ Ft (Bx bp0 48 [.int .i64 x211, .bool x212, .bool x213, .bool x214, .bool x215, .int .i64 x216, .slice A217 (l219).length c218, .string x222, .int .u8 x223, .int .i32 x224, .int .i64 x225, .slice A226 (l228).length c227]) w_ o210 2 ∧ CO (encInt .i64) 3 A217 c218 l219 (x211 == (3 : Int)) w_ o210 12 1 ∧ NOwn dT50 51 A226 c227 l228 w_ o210 4 1 ∧ (l219).length ≤ c218 ∧ (l228).length ≤ c227 ∧ seq_Parser_finish_j2 x211 x212 x213 x214 x215 x216 l219 x222 x223 x224 x225 l228 = some r) ?_ ?_
      rotate_left
      · rintro a w231 ⟨o210, x211, x212, x213, x214, x215, x216, A217, c218, l219, x222, x223, x224, x225, A226, c227, l228, hk, hs, f153, f220, f229, hc221, hc230, H⟩
        rw [seq_Parser_finish_j2] at H
        obtain rfl := Option.some.inj H
        exact x_endG hk (rs := []) (vs := []) rfl trivial ⟨cl w oi o [2, 3, 4] (fun l_ => if l_ = 1 then LF else if l_ = 2 then Lp0 else if l_ = 4 then Lp0_1 else if l_ = 12 then Lp0_0 else 0) o210, A217, c218, A226, c227, rfl, hs.closeF (Lm := [Lp0, Lp0_0, Lp0_1]) (Sh := []) hoa rfl (fun l_ => if l_ = 1 then LF else if l_ = 2 then Lp0 else if l_ = 4 then Lp0_1 else if l_ = 12 then Lp0_0 else 0), hs.closeM_ft (o := o) (ρ := fun l_ => if l_ = 1 then LF else if l_ = 2 then Lp0 else if l_ = 4 then Lp0_1 else if l_ = 12 then Lp0_0 else 0) f153 (lab_at hoa (i := 1) rfl) rfl, f220.conv (fun _ h_ => hs.closeM_ft (o := o) (ρ := fun l_ => if l_ = 1 then LF else if l_ = 2 then Lp0 else if l_ = 4 then Lp0_1 else if l_ = 12 then Lp0_0 else 0) h_ (lab_none hob rfl) rfl) (fun _ h_ => hs.closeM_ft (o := o) (ρ := fun l_ => if l_ = 1 then LF else if l_ = 2 then Lp0 else if l_ = 4 then Lp0_1 else if l_ = 12 then Lp0_0 else 0) h_ (lab_at hoa (i := 0) rfl) rfl), hc221, f229.conv (fun _ h_ => hs.closeM_ft (o := o) (ρ := fun l_ => if l_ = 1 then LF else if l_ = 2 then Lp0 else if l_ = 4 then Lp0_1 else if l_ = 12 then Lp0_0 else 0) h_ (lab_at hoa (i := 3) rfl) rfl) (fun _ h_ => hs.closeM_ft (o := o) (ρ := fun l_ => if l_ = 1 then LF else if l_ = 2 then Lp0 else if l_ = 4 then Lp0_1 else if l_ = 12 then Lp0_0 else 0) h_ (lab_at hoa (i := 0) rfl) rfl), hc230⟩
      obtain ⟨t256, hc257, H⟩ := bindS H
      refine xd_begin (o := o34) (fun W_ => True) mixed rfl rfl fun w304 st305 => ?_
      replace f43 := f43.st st305 (by decide)
      replace f900001 := f900001.st st305 (by decide)
      replace f900019 := f900019.st st305 (by decide)
      replace hs := hs.locQ st305 hob rfl
      refine xd_abs fun G hG => ?_
      have N311 : ∀ (a_ : Act) (w_ : World), (∃ o309 : Nat → Nat, Kn 35 a_ [(21, .pointer (some ⟨bp0, 0, none⟩)), (22, .int .u8 p1), (27, .bool x35), (31, .pointer (some ((⟨bp0, 0, none⟩ : Addr).add 6)))] ∧ St [2, 3, 4] w oi w_ o309 ∧ Ft (Own (encInt .i64) 3 (.slice A40 (l42).length c41) l42) w_ o309 3 ∧ NOwn dT50 51 Ap0_1 cp0_1 p0.out w_ o309 4 1 ∧ Ft (Bx bp0 48 [.int .i64 0, .bool x35, .bool x36, .bool x37, .bool x38, .int .i64 x39, .slice A40 (l42).length c41, .string p0.text, .int .u8 p0.runes_Lead, .int .i32 p0.runes_Rune, .int .i64 p0.runes_Need, .slice Ap0_1 (p0.out).length cp0_1]) w_ o309 2) → G 3 #[true, true, true, true, true, true, true, true, true, true, true, false, false, false] a_ w_ := by
        rintro a w310 ⟨o309, hk, hs, f43, f900001, f900019⟩
        refine xd_of hG ?_
        refine xd_op hk (i := 11) (by kernel_rfl) rfl rfl ?_
        refine op_quiet tab hk (lv := [.slice A40 (l42).length c41]) (v := .slice A40 (l42).length c41) rfl ⟨(load1 tab rfl ((Bx.cell f900019.now 6).trans rfl)), trivial⟩ ?_
        have hk := hk.put 32 (.slice A40 (l42).length c41) rfl
        refine ⟨.inr trivial, ?_⟩
        refine xd_take tab hk (k := 1) (is := [12]) (ls' := #[true, true, true, true, true, true, true, true, true, true, true, true, true, false]) (lv := []) (ks := [21, 33]) (e' := [(21, .pointer (some ⟨bp0, 0, none⟩)), (33, .agg #[.int .i64 4, .int .i32 0, .int .u8 p1, .bool x35, .slice A40 (l42).length c41, .string (⟨#[]⟩ : ByteArray)])]) (by kernel_rfl) rfl rfl (by kernel_rfl) (np_then np_body) trivial (fun W_ hS => trivial) fun a hk => ?_
        refine xd_op hk (i := 13) (by kernel_rfl) rfl rfl ?_
        obtain ⟨o315, hR316⟩ := relab_ex o309 (fun l_ => if l_ = 3 then 1 else l_)
        replace hs : St [2, 3, 4] w oi w310 o315 := by rw [hR316]; exact (hs.relabM hob (fun l_ => if l_ = 3 then 1 else l_) (by decide))
        replace f43 : Ft (Own (encInt .i64) 3 (.slice A40 (l42).length c41) l42) w310 o315 1 := by rw [hR316]; exact f43.relab (fun l_ => if l_ = 3 then 1 else l_) rfl
        replace f900001 : NOwn dT50 51 Ap0_1 cp0_1 p0.out w310 o315 4 1 := by rw [hR316]; exact f900001.relab (fun l_ => if l_ = 3 then 1 else l_) rfl
        replace f900019 : Ft (Bx bp0 48 [.int .i64 0, .bool x35, .bool x36, .bool x37, .bool x38, .int .i64 x39, .slice A40 (l42).length c41, .string p0.text, .int .u8 p0.runes_Lead, .int .i32 p0.runes_Rune, .int .i64 p0.runes_Need, .slice Ap0_1 (p0.out).length cp0_1]) w310 o315 2 := by rw [hR316]; exact f900019.relab (fun l_ => if l_ = 3 then 1 else l_) rfl
        replace f43 := f43.imp fun _ h_ => Own.rd h_
        refine op_call hk ent_107 (vs := [.pointer (some ⟨bp0, 0, none⟩), .agg #[.int .i64 4, .int .i32 0, .int .u8 p1, .bool x35, .slice A40 (l42).length c41, .string (⟨#[]⟩ : ByteArray)]]) rfl (seq_Parser_tell_calls bp0 A40 c41 Ap0_1 cp0_1 (⟨0, x35, x36, x37, x38, x39, l42, p0.text, p0.runes_Lead, p0.runes_Rune, p0.runes_Need, p0.out⟩ : T47) A40 c41 (⟨4, 0, p1, x35, l42, (⟨#[]⟩ : ByteArray)⟩ : T50) _ o315 1 2 f900019 17 (CO.of_rd f43 _) hc44 4 f900001 hcp0_1 f43 hc44 (by decide)   _ hc257) ?_
        rintro _ w317 ⟨o318, A321, c322, A325, c326, rfl, st319, f320, f323, hc324, f327, hc328⟩
        replace f43 := f43.st st319 (by decide)
        replace hs := hs.locQ st319 hob rfl
        have hk := hk.put 34 (.tuple #[]) rfl
        refine ⟨.inr trivial, ?_⟩
        refine xd_done (by kernel_rfl) ?_
        refine then_n ?_
        exact ⟨(fun b_ => (fun l_ => if l_ = 17 then 12 else l_) (o318 b_)), t256.state, t256.order_private_, t256.order_wrong, t256.order_any, t256.order_some, t256.order_n, A321, c322, t256.order_nums, t256.text, t256.runes_Lead, t256.runes_Rune, t256.runes_Need, A325, c326, t256.out, (by exact Kn.pick (ks := []) hk rfl), (hs.relabM hob (fun l_ => if l_ = 17 then 12 else l_) (by decide)), (f320.relab (fun l_ => if l_ = 17 then 12 else l_) rfl), (f323.relab (fun l_ => if l_ = 17 then 12 else l_) rfl), (f327.relab (fun l_ => if l_ = 17 then 12 else l_) rfl), hc324, hc328, H⟩
      have N334 : ∀ (a_ : Act) (w_ : World), (∃ o332 : Nat → Nat, Kn 35 a_ [(21, .pointer (some ⟨bp0, 0, none⟩)), (22, .int .u8 p1), (26, .pointer (some ((⟨bp0, 0, none⟩ : Addr).add 1))), (32, .slice A40 (l42).length c41)] ∧ St [2, 3, 4] w oi w_ o332 ∧ Ft (Own (encInt .i64) 3 (.slice A40 (l42).length c41) l42) w_ o332 3 ∧ NOwn dT50 51 Ap0_1 cp0_1 p0.out w_ o332 4 1 ∧ Ft (Bx bp0 48 [.int .i64 0, .bool x35, .bool x36, .bool x37, .bool x38, .int .i64 x39, .slice A40 (l42).length c41, .string p0.text, .int .u8 p0.runes_Lead, .int .i32 p0.runes_Rune, .int .i64 p0.runes_Need, .slice Ap0_1 (p0.out).length cp0_1]) w_ o332 2) → G 3 #[true, true, true, true, true, true, false, true, true, true, true, true, false, false] a_ w_ := by
        rintro a w333 ⟨o332, hk, hs, f43, f900001, f900019⟩
        refine xd_of hG ?_
        refine xd_op hk (i := 6) (by kernel_rfl) rfl rfl ?_
        refine op_quiet tab hk (lv := [.bool x35]) (v := .bool x35) rfl ⟨(load1 tab rfl ((Bx.cell f900019.now 1).trans rfl)), trivial⟩ ?_
        have hk := hk.put 27 (.bool x35) rfl
        refine ⟨.inr trivial, ?_⟩
        refine xd_take tab hk (k := 1) (is := [12]) (ls' := #[true, true, true, true, true, true, true, true, true, true, true, true, true, false]) (lv := []) (ks := [21, 33]) (e' := [(21, .pointer (some ⟨bp0, 0, none⟩)), (33, .agg #[.int .i64 4, .int .i32 0, .int .u8 p1, .bool x35, .slice A40 (l42).length c41, .string (⟨#[]⟩ : ByteArray)])]) (by kernel_rfl) rfl rfl (by kernel_rfl) (np_then np_body) trivial (fun W_ hS => trivial) fun a hk => ?_
        refine xd_op hk (i := 13) (by kernel_rfl) rfl rfl ?_
        obtain ⟨o338, hR339⟩ := relab_ex o332 (fun l_ => if l_ = 3 then 1 else l_)
        replace hs : St [2, 3, 4] w oi w333 o338 := by rw [hR339]; exact (hs.relabM hob (fun l_ => if l_ = 3 then 1 else l_) (by decide))
        replace f43 : Ft (Own (encInt .i64) 3 (.slice A40 (l42).length c41) l42) w333 o338 1 := by rw [hR339]; exact f43.relab (fun l_ => if l_ = 3 then 1 else l_) rfl
        replace f900001 : NOwn dT50 51 Ap0_1 cp0_1 p0.out w333 o338 4 1 := by rw [hR339]; exact f900001.relab (fun l_ => if l_ = 3 then 1 else l_) rfl
        replace f900019 : Ft (Bx bp0 48 [.int .i64 0, .bool x35, .bool x36, .bool x37, .bool x38, .int .i64 x39, .slice A40 (l42).length c41, .string p0.text, .int .u8 p0.runes_Lead, .int .i32 p0.runes_Rune, .int .i64 p0.runes_Need, .slice Ap0_1 (p0.out).length cp0_1]) w333 o338 2 := by rw [hR339]; exact f900019.relab (fun l_ => if l_ = 3 then 1 else l_) rfl
        replace f43 := f43.imp fun _ h_ => Own.rd h_
        refine op_call hk ent_107 (vs := [.pointer (some ⟨bp0, 0, none⟩), .agg #[.int .i64 4, .int .i32 0, .int .u8 p1, .bool x35, .slice A40 (l42).length c41, .string (⟨#[]⟩ : ByteArray)]]) rfl (seq_Parser_tell_calls bp0 A40 c41 Ap0_1 cp0_1 (⟨0, x35, x36, x37, x38, x39, l42, p0.text, p0.runes_Lead, p0.runes_Rune, p0.runes_Need, p0.out⟩ : T47) A40 c41 (⟨4, 0, p1, x35, l42, (⟨#[]⟩ : ByteArray)⟩ : T50) _ o338 1 2 f900019 18 (CO.of_rd f43 _) hc44 4 f900001 hcp0_1 f43 hc44 (by decide)   _ hc257) ?_
        rintro _ w340 ⟨o341, A344, c345, A348, c349, rfl, st342, f343, f346, hc347, f350, hc351⟩
        replace f43 := f43.st st342 (by decide)
        replace hs := hs.locQ st342 hob rfl
        have hk := hk.put 34 (.tuple #[]) rfl
        refine ⟨.inr trivial, ?_⟩
        refine xd_done (by kernel_rfl) ?_
        refine then_n ?_
        exact ⟨(fun b_ => (fun l_ => if l_ = 18 then 12 else l_) (o341 b_)), t256.state, t256.order_private_, t256.order_wrong, t256.order_any, t256.order_some, t256.order_n, A344, c345, t256.order_nums, t256.text, t256.runes_Lead, t256.runes_Rune, t256.runes_Need, A348, c349, t256.out, (by exact Kn.pick (ks := []) hk rfl), (hs.relabM hob (fun l_ => if l_ = 18 then 12 else l_) (by decide)), (f343.relab (fun l_ => if l_ = 18 then 12 else l_) rfl), (f346.relab (fun l_ => if l_ = 18 then 12 else l_) rfl), (f350.relab (fun l_ => if l_ = 18 then 12 else l_) rfl), hc347, hc351, H⟩
      refine xd_of hG ?_
      refine xd_take tab hk (k := 4) (is := [0, 1, 2, 3, 4, 5, 7, 8, 9, 10]) (ls' := #[true, true, true, true, true, true, false, true, true, true, true, false, false, false]) (lv := []) (ks := [21, 22, 26, 31]) (e' := [(21, .pointer (some ⟨bp0, 0, none⟩)), (22, .int .u8 p1), (26, .pointer (some ((⟨bp0, 0, none⟩ : Addr).add 1))), (31, .pointer (some ((⟨bp0, 0, none⟩ : Addr).add 6)))]) (by kernel_rfl) rfl rfl (by kernel_rfl) (np_then np_body) trivial (fun W_ hS => trivial) fun a hk => ?_
      refine xd_each [6, 11] (by kernel_rfl) rfl ⟨?_, ?_, trivial⟩
      · refine xd_one hk rfl rfl ?_
        refine op_quiet tab hk (lv := [.bool x35]) (v := .bool x35) rfl ⟨(load1 tab rfl ((Bx.cell f900019.now 1).trans rfl)), trivial⟩ ?_
        have hk := hk.put 27 (.bool x35) rfl
        refine ⟨.inr trivial, ?_⟩
        exact xd_to hG rfl (N311 _ _ ⟨o34, (by exact Kn.pick (ks := [21, 22, 27, 31]) hk rfl), hs, f43, f900001, f900019⟩)
      · refine xd_one hk rfl rfl ?_
        refine op_quiet tab hk (lv := [.slice A40 (l42).length c41]) (v := .slice A40 (l42).length c41) rfl ⟨(load1 tab rfl ((Bx.cell f900019.now 6).trans rfl)), trivial⟩ ?_
        have hk := hk.put 32 (.slice A40 (l42).length c41) rfl
        refine ⟨.inr trivial, ?_⟩
        exact xd_to hG rfl (N334 _ _ ⟨o34, (by exact Kn.pick (ks := [21, 22, 26, 32]) hk rfl), hs, f43, f900001, f900019⟩)
    refine x_seq ?_
    refine wpIn_region_lit ?_
    refine x_run tab hk (k := 5) (lv := [.bool p0.order_some]) (ks := [0, 1, 16]) (e' := [(0, .pointer (some ⟨bp0, 0, none⟩)), (1, .int .u8 p1), (16, .bool p0.order_some)]) rfl ⟨(load1 tab rfl ((Bx.cell f900019.now 4).trans rfl)), trivial⟩ fun a hk => ?_
    refine wpListIn_nil ?_
    refine then_n ?_
    cases b352 : p0.order_some
    · rw [b352] at hk H
      replace H := bifF H
      rw [b352] at f900019
      refine x_if hk (b := false) rfl ?_
      refine (show Code.wpIn _ _ _ _ _ _ _ from ?_)
      refine wpIn_skip ?_
      refine then_n ?_
      exact ⟨o2, p0.order_private_, false, p0.order_any, false, p0.order_n, Ap0_0, cp0_0, p0.order_nums, (by exact Kn.pick (ks := [0, 1]) hk rfl), hs, f900000, f900001, f900019, hcp0_0, H⟩
    · rw [b352] at hk H
      replace H := bifT H
      rw [b352] at f900019
      refine x_if hk (b := true) rfl ?_
      refine (show Code.wpIn _ _ _ _ _ _ _ from ?_)
      refine wpIn_region_lit ?_
      refine x_run tab hk (k := 3) (lv := []) (ks := [0, 1, 19]) (e' := [(0, .pointer (some ⟨bp0, 0, none⟩)), (1, .int .u8 p1), (19, .pointer (some ((⟨bp0, 0, none⟩ : Addr).add 1)))]) rfl trivial fun a hk => ?_
      refine x_op hk rfl ?_
      obtain ⟨t356, hc357, H⟩ := bindS H
      refine op_call hk ent_108 (vs := [.pointer (some ((⟨bp0, 0, none⟩ : Addr).add 1))]) rfl (seq_order_push_of48_1_calls bp0 Ap0_0 cp0_0 Ap0_1 cp0_1 (⟨0, p0.order_private_, false, p0.order_any, true, p0.order_n, p0.order_nums, p0.text, p0.runes_Lead, p0.runes_Rune, p0.runes_Need, p0.out⟩ : T47) _ o2 1 2 f900019 3 f900000 hcp0_0 (by decide)   _ hc357) ?_
      rintro _ w358 ⟨o359, A362, c363, rfl, st360, f361, f364, hc365⟩
      replace f900001 := f900001.st st360 (by decide)
      replace hs := hs.locQ st360 hob rfl
      have hk := hk.put 20 (.tuple #[]) rfl
      refine wpListIn_nil ?_
      refine then_n ?_
      exact ⟨o359, t356.private_, t356.wrong, t356.any, t356.some, t356.n, A362, c363, t356.nums, (by exact Kn.pick (ks := [0, 1]) hk rfl), hs, f364, f900001, f361, hc365, H⟩
  · rw [b4] at hk H
    replace H := bifT H
    rw [b4] at f900019
    refine x_if hk (b := true) rfl ?_
    refine (show Code.wpIn _ _ _ _ _ _ _ from ?_)
    refine wpIn_ret ?_
    refine then_r ?_
    obtain rfl := Option.some.inj H
    exact x_retG hk (rs := []) (vs := []) rfl trivial ⟨cl w oi o [2, 3, 4] (fun l_ => if l_ = 1 then LF else if l_ = 2 then Lp0 else if l_ = 3 then Lp0_0 else if l_ = 4 then Lp0_1 else 0) o2, Ap0_0, cp0_0, Ap0_1, cp0_1, rfl, hs.closeF (Lm := [Lp0, Lp0_0, Lp0_1]) (Sh := []) hoa rfl (fun l_ => if l_ = 1 then LF else if l_ = 2 then Lp0 else if l_ = 3 then Lp0_0 else if l_ = 4 then Lp0_1 else 0), hs.closeM_ft (o := o) (ρ := fun l_ => if l_ = 1 then LF else if l_ = 2 then Lp0 else if l_ = 3 then Lp0_0 else if l_ = 4 then Lp0_1 else 0) f900019 (lab_at hoa (i := 1) rfl) rfl, (CO.of_own (hs.closeM_ft (o := o) (ρ := fun l_ => if l_ = 1 then LF else if l_ = 2 then Lp0 else if l_ = 3 then Lp0_0 else if l_ = 4 then Lp0_1 else 0) f900000 (lab_at hoa (i := 2) rfl) rfl) _ _), hcp0_0, f900001.conv (fun _ h_ => hs.closeM_ft (o := o) (ρ := fun l_ => if l_ = 1 then LF else if l_ = 2 then Lp0 else if l_ = 3 then Lp0_0 else if l_ = 4 then Lp0_1 else 0) h_ (lab_at hoa (i := 3) rfl) rfl) (fun _ h_ => hs.closeM_ft (o := o) (ρ := fun l_ => if l_ = 1 then LF else if l_ = 2 then Lp0 else if l_ = 3 then Lp0_0 else if l_ = 4 then Lp0_1 else 0) h_ (lab_at hoa (i := 0) rfl) rfl), hcp0_1⟩

/-! (*tidewrack/seq.Parser).tell -/
theorem seq_Parser_tell_ofown_calls (bp0 : Nat) (Ap0_0 : Option Addr) (cp0_0 : Nat) (Ap0_1 : Option Addr) (cp0_1 : Nat) (p0 : T47) (Ap1_0 : Option Addr) (cp1_0 : Nat) (p1 : T50) (w : World) (o : Nat → Nat) (LF : Nat) (Lp0 : Nat) (hp0 : Ft (Bx bp0 48 [.int .i64 p0.state, .bool p0.order_private_, .bool p0.order_wrong, .bool p0.order_any, .bool p0.order_some, .int .i64 p0.order_n, .slice Ap0_0 (p0.order_nums).length cp0_0, .string p0.text, .int .u8 p0.runes_Lead, .int .i32 p0.runes_Rune, .int .i64 p0.runes_Need, .slice Ap0_1 (p0.out).length cp0_1]) w o Lp0) (Lp0_0 : Nat) (hp0_0 : Ft (Own (encInt .i64) 3 (.slice Ap0_0 (p0.order_nums).length cp0_0) p0.order_nums) w o Lp0_0) (hcp0_0 : (p0.order_nums).length ≤ cp0_0) (Lp0_1 : Nat) (hp0_1 : NOwn dT50 51 Ap0_1 cp0_1 p0.out w o Lp0_1 LF) (hcp0_1 : (p0.out).length ≤ cp0_1) (hp1_0 : Ft (RdC (encInt .i64) Ap1_0 p1.Nums) w o LF) (hcp1_0 : (p1.Nums).length ≤ cp1_0) (hd0 : ([LF, Lp0, Lp0_0, Lp0_1] : List Nat).Nodup) (r : T47) (H : seq_Parser_tell_ofown p0 p1 = some r) :
    Calls Tryd.prog 107 #[.pointer (some ⟨bp0, 0, none⟩), .agg #[.int .i64 p1.Kind, .int .i32 p1.Rune, .int .u8 p1.Byte, .bool p1.Private, .slice Ap1_0 (p1.Nums).length cp1_0, .string p1.Text]] w (Ret fun v_ w' => ∃ o' : Nat → Nat, ∃ A0 : Option Addr, ∃ c0 : Nat, ∃ A1 : Option Addr, ∃ c1 : Nat, v_ = .tuple #[] ∧ St [Lp0, Lp0_0, Lp0_1] w o w' o' ∧ Ft (Bx bp0 48 [.int .i64 r.state, .bool r.order_private_, .bool r.order_wrong, .bool r.order_any, .bool r.order_some, .int .i64 r.order_n, .slice A0 (r.order_nums).length c0, .string r.text, .int .u8 r.runes_Lead, .int .i32 r.runes_Rune, .int .i64 r.runes_Need, .slice A1 (r.out).length c1]) w' o' Lp0 ∧ Ft (Own (encInt .i64) 3 (.slice A0 (r.order_nums).length c0) r.order_nums) w' o' Lp0_0 ∧ (r.order_nums).length ≤ c0 ∧ NOwn dT50 51 A1 c1 r.out w' o' Lp0_1 LF ∧ (r.out).length ≤ c1) := by
  refine x_enter (vs := [.pointer (some ⟨bp0, 0, none⟩), .agg #[.int .i64 p1.Kind, .int .i32 p1.Rune, .int .u8 p1.Byte, .bool p1.Private, .slice Ap1_0 (p1.Nums).length cp1_0, .string p1.Text]]) Tryd.func107 rfl rfl rfl fun a hk => ?_
  obtain ⟨oi, hs0, h0, h1, hob, hoz, hoa⟩ := St.startM2 w o (m := 4) hd0 rfl
  have hs := hs0 [2, 3, 4]
  have f900000 := h1 2 3 hp0_0 rfl rfl
  have f900001 := hp0_1.conv (fun _ h_ => h1 3 4 h_ rfl rfl) (fun _ h_ => h1 0 1 h_ rfl rfl)
  have f900019 := h1 1 2 hp0 rfl rfl
  have f900020 := h1 0 1 hp1_0 rfl rfl
  clear h0 h1 hs0
  rw [seq_Parser_tell_ofown] at H
  refine x_seq ?_
  refine wpIn_region_lit ?_
  refine x_op hk rfl ?_
  refine op_box (o := oi) (t := 51) (v := .agg #[.int .i64 p1.Kind, .int .i32 p1.Rune, .int .u8 p1.Byte, .bool p1.Private, .slice Ap1_0 (p1.Nums).length cp1_0, .string p1.Text]) (cs := [.int .i64 p1.Kind, .int .i32 p1.Rune, .int .u8 p1.Byte, .bool p1.Private, .slice Ap1_0 (p1.Nums).length cp1_0, .string p1.Text]) hk rfl rfl 5 fun bx4 w1 o2 st3 f5 => ?_
  replace f900000 := f900000.st st3 (by decide)
  replace f900001 := f900001.st st3 (by decide)
  replace f900019 := f900019.st st3 (by decide)
  replace f900020 := f900020.st st3 (by decide)
  replace hs := hs.locQ st3 hob rfl
  have hk := hk.put 3 (.pointer (some ⟨bx4, 0, none⟩)) rfl
  refine wpListIn_nil ?_
  refine then_n ?_
  refine x_cut (fun a_ w_ => ∃ o154 : Nat → Nat, ∃ A155 : Option Addr, ∃ c156 : Nat, Kn 14 a_ [] ∧ St [2, 3, 4] w oi w_ o154 ∧ NOwn dT50 51 A155 c156 (p0.out ++ ([p1] : List T50)) w_ o154 4 1 ∧ Ft (Own (encInt .i64) 3 (.slice Ap0_0 (p0.order_nums).length cp0_0) p0.order_nums) w_ o154 3 ∧ Ft (Bx bp0 48 [.int .i64 p0.state, .bool p0.order_private_, .bool p0.order_wrong, .bool p0.order_any, .bool p0.order_some, .int .i64 p0.order_n, .slice Ap0_0 (p0.order_nums).length cp0_0, .string p0.text, .int .u8 p0.runes_Lead, .int .i32 p0.runes_Rune, .int .i64 p0.runes_Need, .slice A155 ((p0.out ++ ([p1] : List T50))).length c156]) w_ o154 2 ∧ ((p0.out ++ ([p1] : List T50))).length ≤ c156 ∧ seq_Parser_tell_ofown_j1 p0 p1 = some r) ?_ ?_
  rotate_left
  · rintro a w159 ⟨o154, A155, c156, hk, hs, f157, f900000, f900019, hc158, H⟩
    rw [seq_Parser_tell_ofown_j1] at H
    obtain rfl := Option.some.inj H
    exact x_endG hk (rs := []) (vs := []) rfl trivial ⟨cl w oi o [2, 3, 4] (fun l_ => if l_ = 1 then LF else if l_ = 2 then Lp0 else if l_ = 3 then Lp0_0 else if l_ = 4 then Lp0_1 else 0) o154, Ap0_0, cp0_0, A155, c156, rfl, hs.closeF (Lm := [Lp0, Lp0_0, Lp0_1]) (Sh := []) hoa rfl (fun l_ => if l_ = 1 then LF else if l_ = 2 then Lp0 else if l_ = 3 then Lp0_0 else if l_ = 4 then Lp0_1 else 0), hs.closeM_ft (o := o) (ρ := fun l_ => if l_ = 1 then LF else if l_ = 2 then Lp0 else if l_ = 3 then Lp0_0 else if l_ = 4 then Lp0_1 else 0) f900019 (lab_at hoa (i := 1) rfl) rfl, hs.closeM_ft (o := o) (ρ := fun l_ => if l_ = 1 then LF else if l_ = 2 then Lp0 else if l_ = 3 then Lp0_0 else if l_ = 4 then Lp0_1 else 0) f900000 (lab_at hoa (i := 2) rfl) rfl, hcp0_0, f157.conv (fun _ h_ => hs.closeM_ft (o := o) (ρ := fun l_ => if l_ = 1 then LF else if l_ = 2 then Lp0 else if l_ = 3 then Lp0_0 else if l_ = 4 then Lp0_1 else 0) h_ (lab_at hoa (i := 3) rfl) rfl) (fun _ h_ => hs.closeM_ft (o := o) (ρ := fun l_ => if l_ = 1 then LF else if l_ = 2 then Lp0 else if l_ = 3 then Lp0_0 else if l_ = 4 then Lp0_1 else 0) h_ (lab_at hoa (i := 0) rfl) rfl), hc158⟩
  obtain ⟨q186, H⟩ := ifS H
  refine xd_begin (o := o2) (fun W_ => (Bx bx4 51 [.int .i64 p1.Kind, .int .i32 p1.Rune, .int .u8 p1.Byte, .bool p1.Private, .slice Ap1_0 (p1.Nums).length cp1_0, .string p1.Text]) W_ ∧ True) mixed rfl rfl fun w226 st227 => ?_
  replace f5 := f5.st st227 (by decide)
  replace f900000 := f900000.st st227 (by decide)
  replace f900001 := f900001.st st227 (by decide)
  replace f900019 := f900019.st st227 (by decide)
  replace f900020 := f900020.st st227 (by decide)
  replace hs := hs.locQ st227 hob rfl
  refine xd_abs fun G hG => ?_
  have N233 : ∀ (a_ : Act) (w_ : World), (∃ o231 : Nat → Nat, Kn 14 a_ [(4, .pointer (some ⟨bp0, 0, none⟩)), (8, .slice Ap0_1 (p0.out).length cp0_1), (9, .agg #[.int .i64 p1.Kind, .int .i32 p1.Rune, .int .u8 p1.Byte, .bool p1.Private, .slice Ap1_0 (p1.Nums).length cp1_0, .string p1.Text])] ∧ St [2, 3, 4] w oi w_ o231 ∧ Ft (Bx bx4 51 [.int .i64 p1.Kind, .int .i32 p1.Rune, .int .u8 p1.Byte, .bool p1.Private, .slice Ap1_0 (p1.Nums).length cp1_0, .string p1.Text]) w_ o231 20 ∧ Ft (Own (encInt .i64) 3 (.slice Ap0_0 (p0.order_nums).length cp0_0) p0.order_nums) w_ o231 3 ∧ NOwn dT50 51 Ap0_1 cp0_1 p0.out w_ o231 4 1 ∧ Ft (Bx bp0 48 [.int .i64 p0.state, .bool p0.order_private_, .bool p0.order_wrong, .bool p0.order_any, .bool p0.order_some, .int .i64 p0.order_n, .slice Ap0_0 (p0.order_nums).length cp0_0, .string p0.text, .int .u8 p0.runes_Lead, .int .i32 p0.runes_Rune, .int .i64 p0.runes_Need, .slice Ap0_1 (p0.out).length cp0_1]) w_ o231 2 ∧ Ft (RdC (encInt .i64) Ap1_0 p1.Nums) w_ o231 1) → G 5 #[true, true, true, true, true, true, false, false, false, false, false] a_ w_ := by
    rintro a w232 ⟨o231, hk, hs, f5, f900000, f900001, f900019, f900020⟩
    refine xd_of hG ?_
    refine xd_op hk (i := 6) (by kernel_rfl) rfl rfl ?_
    refine op_slice (o := o231) tab hk (vs := [.agg #[.int .i64 p1.Kind, .int .i32 p1.Rune, .int .u8 p1.Byte, .bool p1.Private, .slice Ap1_0 (p1.Nums).length cp1_0, .string p1.Text]]) (cs := [.int .i64 p1.Kind, .int .i32 p1.Rune, .int .u8 p1.Byte, .bool p1.Private, .slice Ap1_0 (p1.Nums).length cp1_0, .string p1.Text]) rfl rfl rfl rfl rfl rfl rfl rfl rfl 21 fun bx237 w234 o235 st236 f238 => ?_
    replace f5 := f5.st st236 (by decide)
    replace f900000 := f900000.st st236 (by decide)
    replace f900001 := f900001.st st236 (by decide)
    replace f900019 := f900019.st st236 (by decide)
    replace f900020 := f900020.st st236 (by decide)
    replace hs := hs.locQ st236 hob rfl
    have f239 : NOwn dT50 51 (some ⟨bx237, 0, none⟩) 1 ([p1] : List T50) w234 o235 21 1 := NOwn.litD (D := dT50) f238 [(⟨p1, Ap1_0, cp1_0⟩ : NT50)] rfl (Inn.consD (D := dT50) (r := (⟨p1, Ap1_0, cp1_0⟩ : NT50)) (f900020.imp fun _ h_ => ⟨h_, hcp1_0⟩) (Inn.nilD _ _ _ _)) rfl (Nat.le_of_ble_eq_true rfl)
    have hk := hk.put 10 (.slice (some ⟨bx237, 0, none⟩) (([p1] : List T50)).length 1) rfl
    refine ⟨.inr ⟨f5.now, trivial⟩, ?_⟩
    refine xd_op hk (i := 7) (by kernel_rfl) rfl rfl ?_
    refine op_appendN (o := o235) (D := dT50) (xs := p0.out) (ys := ([p1] : List T50)) tab hk rfl rfl rfl rfl rfl rfl rfl f900001 f239.rd (by decide) q186 fun A243 c244 w240 o241 st242 f245 hc246 => ?_
    replace f239 := f239.st st242 (by decide)
    replace f5 := f5.st st242 (by decide)
    replace f900000 := f900000.st st242 (by decide)
    replace f900019 := f900019.st st242 (by decide)
    replace f900020 := f900020.st st242 (by decide)
    replace hs := hs.locQ st242 hob rfl
    have hk := hk.put 11 (.slice A243 ((p0.out ++ ([p1] : List T50))).length c244) rfl
    refine ⟨.inr ⟨f5.now, trivial⟩, ?_⟩
    refine xd_take tab hk (k := 1) (is := [8, 9]) (ls' := #[true, true, true, true, true, true, true, true, true, true, false]) (lv := []) (ks := [11, 13]) (e' := [(11, .slice A243 ((p0.out ++ ([p1] : List T50))).length c244), (13, .pointer (some ((⟨bp0, 0, none⟩ : Addr).add 11)))]) (by kernel_rfl) rfl rfl (by kernel_rfl) (np_then np_body) ⟨f5.now, trivial⟩ (fun W_ hS => trivial) fun a hk => ?_
    refine xd_op hk (i := 10) (by kernel_rfl) rfl rfl ?_
    refine op_store tab hk (t := 46) (v := .slice A243 ((p0.out ++ ([p1] : List T50))).length c244) (b := bp0) (k := 11) (cs' := [.int .i64 p0.state, .bool p0.order_private_, .bool p0.order_wrong, .bool p0.order_any, .bool p0.order_some, .int .i64 p0.order_n, .slice Ap0_0 (p0.order_nums).length cp0_0, .string p0.text, .int .u8 p0.runes_Lead, .int .i32 p0.runes_Rune, .int .i64 p0.runes_Need, .slice A243 ((p0.out ++ ([p1] : List T50))).length c244]) rfl rfl rfl rfl rfl rfl f900019 rfl rfl fun w247 o248 st249 f900019_ => ?_
    replace f239 := f239.st st249 (by decide)
    replace f245 := f245.st st249 (by decide)
    replace f5 := f5.st st249 (by decide)
    replace f900000 := f900000.st st249 (by decide)
    replace f900020 := f900020.st st249 (by decide)
    replace hs := hs.locQ st249 hob rfl
    replace f900019 := f900019_
    refine ⟨.inr ⟨f5.now, trivial⟩, ?_⟩
    refine xd_done (by kernel_rfl) ?_
    refine then_n ?_
    exact ⟨o248, A243, c244, (by exact Kn.pick (ks := []) hk rfl), hs, f245, f900000, f900019, hc246, H⟩
  have N271 : ∀ (a_ : Act) (w_ : World), (∃ o265 : Nat → Nat, ∃ A266 : Option Addr, ∃ c267 : Nat, Kn 14 a_ [(4, .pointer (some ⟨bp0, 0, none⟩)), (7, .pointer (some ((⟨bp0, 0, none⟩ : Addr).add 11))), (10, .slice A266 (([p1] : List T50)).length c267)] ∧ St [2, 3, 4] w oi w_ o265 ∧ NOwn dT50 51 A266 c267 ([p1] : List T50) w_ o265 24 1 ∧ Ft (Bx bx4 51 [.int .i64 p1.Kind, .int .i32 p1.Rune, .int .u8 p1.Byte, .bool p1.Private, .slice Ap1_0 (p1.Nums).length cp1_0, .string p1.Text]) w_ o265 23 ∧ Ft (Own (encInt .i64) 3 (.slice Ap0_0 (p0.order_nums).length cp0_0) p0.order_nums) w_ o265 3 ∧ NOwn dT50 51 Ap0_1 cp0_1 p0.out w_ o265 4 1 ∧ Ft (Bx bp0 48 [.int .i64 p0.state, .bool p0.order_private_, .bool p0.order_wrong, .bool p0.order_any, .bool p0.order_some, .int .i64 p0.order_n, .slice Ap0_0 (p0.order_nums).length cp0_0, .string p0.text, .int .u8 p0.runes_Lead, .int .i32 p0.runes_Rune, .int .i64 p0.runes_Need, .slice Ap0_1 (p0.out).length cp0_1]) w_ o265 2 ∧ Ft (RdC (encInt .i64) Ap1_0 p1.Nums) w_ o265 1 ∧ (([p1] : List T50)).length ≤ c267) → G 5 #[true, true, true, true, false, true, true, false, false, false, false] a_ w_ := by
    rintro a w270 ⟨o265, A266, c267, hk, hs, f268, f5, f900000, f900001, f900019, f900020, hc269⟩
    refine xd_of hG ?_
    refine xd_op hk (i := 4) (by kernel_rfl) rfl rfl ?_
    refine op_quiet tab hk (lv := [.slice Ap0_1 (p0.out).length cp0_1]) (v := .slice Ap0_1 (p0.out).length cp0_1) rfl ⟨(load1 tab rfl ((Bx.cell f900019.now 11).trans rfl)), trivial⟩ ?_
    have hk := hk.put 8 (.slice Ap0_1 (p0.out).length cp0_1) rfl
    refine ⟨.inr ⟨f5.now, trivial⟩, ?_⟩
    refine xd_op hk (i := 7) (by kernel_rfl) rfl rfl ?_
    refine op_appendN (o := o265) (D := dT50) (xs := p0.out) (ys := ([p1] : List T50)) tab hk rfl rfl rfl rfl rfl rfl rfl f900001 f268.rd (by decide) q186 fun A275 c276 w272 o273 st274 f277 hc278 => ?_
    replace f268 := f268.st st274 (by decide)
    replace f5 := f5.st st274 (by decide)
    replace f900000 := f900000.st st274 (by decide)
    replace f900019 := f900019.st st274 (by decide)
    replace f900020 := f900020.st st274 (by decide)
    replace hs := hs.locQ st274 hob rfl
    have hk := hk.put 11 (.slice A275 ((p0.out ++ ([p1] : List T50))).length c276) rfl
    refine ⟨.inr ⟨f5.now, trivial⟩, ?_⟩
    refine xd_take tab hk (k := 1) (is := [8, 9]) (ls' := #[true, true, true, true, true, true, true, true, true, true, false]) (lv := []) (ks := [11, 13]) (e' := [(11, .slice A275 ((p0.out ++ ([p1] : List T50))).length c276), (13, .pointer (some ((⟨bp0, 0, none⟩ : Addr).add 11)))]) (by kernel_rfl) rfl rfl (by kernel_rfl) (np_then np_body) ⟨f5.now, trivial⟩ (fun W_ hS => trivial) fun a hk => ?_
    refine xd_op hk (i := 10) (by kernel_rfl) rfl rfl ?_
    refine op_store tab hk (t := 46) (v := .slice A275 ((p0.out ++ ([p1] : List T50))).length c276) (b := bp0) (k := 11) (cs' := [.int .i64 p0.state, .bool p0.order_private_, .bool p0.order_wrong, .bool p0.order_any, .bool p0.order_some, .int .i64 p0.order_n, .slice Ap0_0 (p0.order_nums).length cp0_0, .string p0.text, .int .u8 p0.runes_Lead, .int .i32 p0.runes_Rune, .int .i64 p0.runes_Need, .slice A275 ((p0.out ++ ([p1] : List T50))).length c276]) rfl rfl rfl rfl rfl rfl f900019 rfl rfl fun w279 o280 st281 f900019_ => ?_
    replace f268 := f268.st st281 (by decide)
    replace f277 := f277.st st281 (by decide)
    replace f5 := f5.st st281 (by decide)
    replace f900000 := f900000.st st281 (by decide)
    replace f900020 := f900020.st st281 (by decide)
    replace hs := hs.locQ st281 hob rfl
    replace f900019 := f900019_
    refine ⟨.inr ⟨f5.now, trivial⟩, ?_⟩
    refine xd_done (by kernel_rfl) ?_
    refine then_n ?_
    exact ⟨o280, A275, c276, (by exact Kn.pick (ks := []) hk rfl), hs, f277, f900000, f900019, hc278, H⟩
  refine xd_of hG ?_
  refine xd_take tab hk (k := 6) (is := [0, 1, 2, 3, 5]) (ls' := #[true, true, true, true, false, true, false, false, false, false, false]) (lv := [.agg #[.int .i64 p1.Kind, .int .i32 p1.Rune, .int .u8 p1.Byte, .bool p1.Private, .slice Ap1_0 (p1.Nums).length cp1_0, .string p1.Text]]) (ks := [4, 7, 9]) (e' := [(4, .pointer (some ⟨bp0, 0, none⟩)), (7, .pointer (some ((⟨bp0, 0, none⟩ : Addr).add 11))), (9, .agg #[.int .i64 p1.Kind, .int .i32 p1.Rune, .int .u8 p1.Byte, .bool p1.Private, .slice Ap1_0 (p1.Nums).length cp1_0, .string p1.Text])]) (by kernel_rfl) rfl rfl (by kernel_rfl) (np_then np_body) ⟨f5.now, trivial⟩ (fun W_ hS => ⟨(load_box tab rfl rfl hS.1 (k := 0) rfl rfl), trivial⟩) fun a hk => ?_
  refine xd_each [4, 6] (by kernel_rfl) rfl ⟨?_, ?_, trivial⟩
  · refine xd_one hk rfl rfl ?_
    refine op_quiet tab hk (lv := [.slice Ap0_1 (p0.out).length cp0_1]) (v := .slice Ap0_1 (p0.out).length cp0_1) rfl ⟨(load1 tab rfl ((Bx.cell f900019.now 11).trans rfl)), trivial⟩ ?_
    have hk := hk.put 8 (.slice Ap0_1 (p0.out).length cp0_1) rfl
    refine ⟨.inr ⟨f5.now, trivial⟩, ?_⟩
    exact xd_to hG rfl (N233 _ _ ⟨(fun b_ => (fun l_ => if l_ = 5 then 20 else l_) (o2 b_)), (by exact Kn.pick (ks := [4, 8, 9]) hk rfl), (hs.relabM hob (fun l_ => if l_ = 5 then 20 else l_) (by decide)), (f5.relab (fun l_ => if l_ = 5 then 20 else l_) rfl), (f900000.relab (fun l_ => if l_ = 5 then 20 else l_) rfl), (f900001.relab (fun l_ => if l_ = 5 then 20 else l_) rfl), (f900019.relab (fun l_ => if l_ = 5 then 20 else l_) rfl), (f900020.relab (fun l_ => if l_ = 5 then 20 else l_) rfl)⟩)
  · refine xd_one hk rfl rfl ?_
    refine op_slice (o := o2) tab hk (vs := [.agg #[.int .i64 p1.Kind, .int .i32 p1.Rune, .int .u8 p1.Byte, .bool p1.Private, .slice Ap1_0 (p1.Nums).length cp1_0, .string p1.Text]]) (cs := [.int .i64 p1.Kind, .int .i32 p1.Rune, .int .u8 p1.Byte, .bool p1.Private, .slice Ap1_0 (p1.Nums).length cp1_0, .string p1.Text]) rfl rfl rfl rfl rfl rfl rfl rfl rfl 22 fun bx253 w250 o251 st252 f254 => ?_
    replace f5 := f5.st st252 (by decide)
    replace f900000 := f900000.st st252 (by decide)
    replace f900001 := f900001.st st252 (by decide)
    replace f900019 := f900019.st st252 (by decide)
    replace f900020 := f900020.st st252 (by decide)
    replace hs := hs.locQ st252 hob rfl
    have f255 : NOwn dT50 51 (some ⟨bx253, 0, none⟩) 1 ([p1] : List T50) w250 o251 22 1 := NOwn.litD (D := dT50) f254 [(⟨p1, Ap1_0, cp1_0⟩ : NT50)] rfl (Inn.consD (D := dT50) (r := (⟨p1, Ap1_0, cp1_0⟩ : NT50)) (f900020.imp fun _ h_ => ⟨h_, hcp1_0⟩) (Inn.nilD _ _ _ _)) rfl (Nat.le_of_ble_eq_true rfl)
    have hk := hk.put 10 (.slice (some ⟨bx253, 0, none⟩) (([p1] : List T50)).length 1) rfl
    refine ⟨.inr ⟨f5.now, trivial⟩, ?_⟩
    exact xd_to hG rfl (N271 _ _ ⟨(fun b_ => (fun l_ => if l_ = 5 then 23 else if l_ = 22 then 24 else l_) (o251 b_)), (some ⟨bx253, 0, none⟩), 1, (by exact Kn.pick (ks := [4, 7, 10]) hk rfl), (hs.relabM hob (fun l_ => if l_ = 5 then 23 else if l_ = 22 then 24 else l_) (by decide)), (f255.relab (fun l_ => if l_ = 5 then 23 else if l_ = 22 then 24 else l_) rfl), (f5.relab (fun l_ => if l_ = 5 then 23 else if l_ = 22 then 24 else l_) rfl), (f900000.relab (fun l_ => if l_ = 5 then 23 else if l_ = 22 then 24 else l_) rfl), (f900001.relab (fun l_ => if l_ = 5 then 23 else if l_ = 22 then 24 else l_) rfl), (f900019.relab (fun l_ => if l_ = 5 then 23 else if l_ = 22 then 24 else l_) rfl), (f900020.relab (fun l_ => if l_ = 5 then 23 else if l_ = 22 then 24 else l_) rfl), (Nat.le_refl _)⟩)

/-! (*tidewrack/seq.Parser).common -/
theorem seq_Parser_common_ofown_calls (bp0 : Nat) (Ap0_0 : Option Addr) (cp0_0 : Nat) (Ap0_1 : Option Addr) (cp0_1 : Nat) (p0 : T47) (p1 : Int) (w : World) (o : Nat → Nat) (LF : Nat) (Lp0 : Nat) (hp0 : Ft (Bx bp0 48 [.int .i64 p0.state, .bool p0.order_private_, .bool p0.order_wrong, .bool p0.order_any, .bool p0.order_some, .int .i64 p0.order_n, .slice Ap0_0 (p0.order_nums).length cp0_0, .string p0.text, .int .u8 p0.runes_Lead, .int .i32 p0.runes_Rune, .int .i64 p0.runes_Need, .slice Ap0_1 (p0.out).length cp0_1]) w o Lp0) (Lp0_0 : Nat) (hp0_0 : Ft (Own (encInt .i64) 3 (.slice Ap0_0 (p0.order_nums).length cp0_0) p0.order_nums) w o Lp0_0) (hcp0_0 : (p0.order_nums).length ≤ cp0_0) (Lp0_1 : Nat) (hp0_1 : NOwn dT50 51 Ap0_1 cp0_1 p0.out w o Lp0_1 LF) (hcp0_1 : (p0.out).length ≤ cp0_1) (hd0 : ([LF, Lp0, Lp0_0, Lp0_1] : List Nat).Nodup) (r : Bool × T47) (H : seq_Parser_common_ofown p0 p1 = some r) :
    Calls Tryd.prog 106 #[.pointer (some ⟨bp0, 0, none⟩), .int .u8 p1] w (Ret fun v_ w' => ∃ o' : Nat → Nat, ∃ A0 : Option Addr, ∃ c0 : Nat, ∃ A1 : Option Addr, ∃ c1 : Nat, v_ = .bool r.1 ∧ St [Lp0, Lp0_0, Lp0_1] w o w' o' ∧ Ft (Bx bp0 48 [.int .i64 r.2.state, .bool r.2.order_private_, .bool r.2.order_wrong, .bool r.2.order_any, .bool r.2.order_some, .int .i64 r.2.order_n, .slice A0 (r.2.order_nums).length c0, .string r.2.text, .int .u8 r.2.runes_Lead, .int .i32 r.2.runes_Rune, .int .i64 r.2.runes_Need, .slice A1 (r.2.out).length c1]) w' o' Lp0 ∧ Ft (Own (encInt .i64) 3 (.slice A0 (r.2.order_nums).length c0) r.2.order_nums) w' o' Lp0_0 ∧ (r.2.order_nums).length ≤ c0 ∧ NOwn dT50 51 A1 c1 r.2.out w' o' Lp0_1 LF ∧ (r.2.out).length ≤ c1) := by
  refine x_enter (vs := [.pointer (some ⟨bp0, 0, none⟩), .int .u8 p1]) Tryd.func106 rfl rfl rfl fun a hk => ?_
  obtain ⟨oi, hs0, h0, h1, hob, hoz, hoa⟩ := St.startM2 w o (m := 4) hd0 rfl
  have hs := hs0 [2, 3, 4]
  have f900000 := h1 2 3 hp0_0 rfl rfl
  have f900001 := hp0_1.conv (fun _ h_ => h1 3 4 h_ rfl rfl) (fun _ h_ => h1 0 1 h_ rfl rfl)
  have f900019 := h1 1 2 hp0 rfl rfl
  clear h0 h1 hs0
  rw [seq_Parser_common_ofown] at H
  refine x_seq ?_
  refine wpIn_region_lit ?_
  refine x_run tab hk (k := 1) (lv := []) (ks := [0, 1]) (e' := [(0, .pointer (some ⟨bp0, 0, none⟩)), (1, .int .u8 p1)]) rfl trivial fun a hk => ?_
  refine wpListIn_nil ?_
  refine then_n ?_
  refine x_seq ?_
  refine wpIn_block ?_
  refine x_mid (fun a_ w_ => ∃ o8 : Nat → Nat, ∃ x9 : Bool, Kn 30 a_ [(0, .pointer (some ⟨bp0, 0, none⟩)), (1, .int .u8 p1), (7, .bool x9)] ∧ St [2, 3, 4] w oi w_ o8 ∧ Ft (Own (encInt .i64) 3 (.slice Ap0_0 (p0.order_nums).length cp0_0) p0.order_nums) w_ o8 3 ∧ NOwn dT50 51 Ap0_1 cp0_1 p0.out w_ o8 4 1 ∧ Ft (Bx bp0 48 [.int .i64 p0.state, .bool p0.order_private_, .bool p0.order_wrong, .bool p0.order_any, .bool p0.order_some, .int .i64 p0.order_n, .slice Ap0_0 (p0.order_nums).length cp0_0, .string p0.text, .int .u8 p0.runes_Lead, .int .i32 p0.runes_Rune, .int .i64 p0.runes_Need, .slice Ap0_1 (p0.out).length cp0_1]) w_ o8 2 ∧ seq_Parser_common_ofown_j1 p0 p1 x9 = some r) ?_ ?_
  rotate_left
  · rintro a w10 ⟨o8, x9, hk, hs, f900000, f900001, f900019, H⟩
    rw [seq_Parser_common_ofown_j1] at H
    cases b11 : x9
    · rw [b11] at hk H
      replace H := bifF H
      refine x_if hk (b := false) rfl ?_
      refine (show Code.wpIn _ _ _ _ _ _ _ from ?_)
      refine x_seq ?_
      refine wpIn_region_lit ?_
      refine x_run tab hk (k := 3) (lv := []) (ks := [0, 1, 17]) (e' := [(0, .pointer (some ⟨bp0, 0, none⟩)), (1, .int .u8 p1), (17, .bool (p1 == (27 : Int)))]) rfl trivial fun a hk => ?_
      refine wpListIn_nil ?_
      refine then_n ?_
      cases b12 : (p1 == (27 : Int))
      · rw [b12] at hk H
        replace H := bifF H
        refine x_if hk (b := false) rfl ?_
        refine (show Code.wpIn _ _ _ _ _ _ _ from ?_)
        refine x_seq ?_
        refine wpIn_region_lit ?_
        refine x_run tab hk (k := 3) (lv := []) (ks := [0, 1, 23]) (e' := [(0, .pointer (some ⟨bp0, 0, none⟩)), (1, .int .u8 p1), (23, .bool (decide (p1 < (32 : Int))))]) rfl trivial fun a hk => ?_
        refine wpListIn_nil ?_
        refine then_n ?_
        cases b13 : (decide (p1 < (32 : Int)))
        · rw [b13] at hk H
          replace H := bifF H
          refine x_if hk (b := false) rfl ?_
          refine (show Code.wpIn _ _ _ _ _ _ _ from ?_)
          refine x_seq ?_
          refine wpIn_region_lit ?_
          refine x_run tab hk (k := 3) (lv := []) (ks := [4]) (e' := [(4, .bool (p1 == (127 : Int)))]) rfl trivial fun a hk => ?_
          refine wpListIn_nil ?_
          refine then_n ?_
          refine wpIn_ret ?_
          refine blk_r ?_
          refine then_r ?_
          obtain rfl := Option.some.inj H
          exact x_retG hk (rs := [.tmp 4]) (vs := [.bool (p1 == (127 : Int))]) rfl ⟨rfl, trivial⟩ ⟨cl w oi o [2, 3, 4] (fun l_ => if l_ = 1 then LF else if l_ = 2 then Lp0 else if l_ = 3 then Lp0_0 else if l_ = 4 then Lp0_1 else 0) o8, Ap0_0, cp0_0, Ap0_1, cp0_1, rfl, hs.closeF (Lm := [Lp0, Lp0_0, Lp0_1]) (Sh := []) hoa rfl (fun l_ => if l_ = 1 then LF else if l_ = 2 then Lp0 else if l_ = 3 then Lp0_0 else if l_ = 4 then Lp0_1 else 0), hs.closeM_ft (o := o) (ρ := fun l_ => if l_ = 1 then LF else if l_ = 2 then Lp0 else if l_ = 3 then Lp0_0 else if l_ = 4 then Lp0_1 else 0) f900019 (lab_at hoa (i := 1) rfl) rfl, hs.closeM_ft (o := o) (ρ := fun l_ => if l_ = 1 then LF else if l_ = 2 then Lp0 else if l_ = 3 then Lp0_0 else if l_ = 4 then Lp0_1 else 0) f900000 (lab_at hoa (i := 2) rfl) rfl, hcp0_0, f900001.conv (fun _ h_ => hs.closeM_ft (o := o) (ρ := fun l_ => if l_ = 1 then LF else if l_ = 2 then Lp0 else if l_ = 3 then Lp0_0 else if l_ = 4 then Lp0_1 else 0) h_ (lab_at hoa (i := 3) rfl) rfl) (fun _ h_ => hs.closeM_ft (o := o) (ρ := fun l_ => if l_ = 1 then LF else if l_ = 2 then Lp0 else if l_ = 3 then Lp0_0 else if l_ = 4 then Lp0_1 else 0) h_ (lab_at hoa (i := 0) rfl) rfl), hcp0_1⟩
        · rw [b13] at hk H
          replace H := bifT H
          refine x_if hk (b := true) rfl ?_
          refine (show Code.wpIn _ _ _ _ _ _ _ from ?_)
          refine wpIn_region_lit ?_
          refine x_run tab hk (k := 3) (lv := []) (ks := [26, 28]) (e' := [(26, .pointer (some ⟨bp0, 0, none⟩)), (28, .agg #[.int .i64 2, .int .i32 0, .int .u8 p1, .bool false, .slice none 0 0, .string (⟨#[]⟩ : ByteArray)])]) rfl trivial fun a hk => ?_
          refine x_op hk rfl ?_
          obtain ⟨t17, hc18, H⟩ := bindS H
          refine op_call hk ent_107 (vs := [.pointer (some ⟨bp0, 0, none⟩), .agg #[.int .i64 2, .int .i32 0, .int .u8 p1, .bool false, .slice none 0 0, .string (⟨#[]⟩ : ByteArray)]]) rfl (seq_Parser_tell_ofown_calls bp0 Ap0_0 cp0_0 Ap0_1 cp0_1 p0 none 0 (⟨2, 0, p1, false, ([] : List Int), (⟨#[]⟩ : ByteArray)⟩ : T50) _ o8 1 2 f900019 3 f900000 hcp0_0 4 f900001 hcp0_1 (Ft.of_all (fun _ => RdC.nilr _ _ _) _ _ _) (Nat.le_refl _) (by decide)   _ hc18) ?_
          rintro _ w19 ⟨o20, A23, c24, A27, c28, rfl, st21, f22, f25, hc26, f29, hc30⟩
          replace hs := hs.locQ st21 hob rfl
          have hk := hk.put 29 (.tuple #[]) rfl
          refine wpListIn_nil ?_
          refine blk_n ?_
          refine then_n ?_
          refine x_seq ?_
          refine wpIn_region_lit ?_
          refine x_run tab hk (k := 1) (lv := []) (ks := [4]) (e' := [(4, .bool true)]) rfl trivial fun a hk => ?_
          refine wpListIn_nil ?_
          refine then_n ?_
          refine wpIn_ret ?_
          obtain rfl := Option.some.inj H
          exact x_retG hk (rs := [.tmp 4]) (vs := [.bool true]) rfl ⟨rfl, trivial⟩ ⟨cl w oi o [2, 3, 4] (fun l_ => if l_ = 1 then LF else if l_ = 2 then Lp0 else if l_ = 3 then Lp0_0 else if l_ = 4 then Lp0_1 else 0) o20, A23, c24, A27, c28, rfl, hs.closeF (Lm := [Lp0, Lp0_0, Lp0_1]) (Sh := []) hoa rfl (fun l_ => if l_ = 1 then LF else if l_ = 2 then Lp0 else if l_ = 3 then Lp0_0 else if l_ = 4 then Lp0_1 else 0), hs.closeM_ft (o := o) (ρ := fun l_ => if l_ = 1 then LF else if l_ = 2 then Lp0 else if l_ = 3 then Lp0_0 else if l_ = 4 then Lp0_1 else 0) f22 (lab_at hoa (i := 1) rfl) rfl, hs.closeM_ft (o := o) (ρ := fun l_ => if l_ = 1 then LF else if l_ = 2 then Lp0 else if l_ = 3 then Lp0_0 else if l_ = 4 then Lp0_1 else 0) f25 (lab_at hoa (i := 2) rfl) rfl, hc26, f29.conv (fun _ h_ => hs.closeM_ft (o := o) (ρ := fun l_ => if l_ = 1 then LF else if l_ = 2 then Lp0 else if l_ = 3 then Lp0_0 else if l_ = 4 then Lp0_1 else 0) h_ (lab_at hoa (i := 3) rfl) rfl) (fun _ h_ => hs.closeM_ft (o := o) (ρ := fun l_ => if l_ = 1 then LF else if l_ = 2 then Lp0 else if l_ = 3 then Lp0_0 else if l_ = 4 then Lp0_1 else 0) h_ (lab_at hoa (i := 0) rfl) rfl), hc30⟩
      · rw [b12] at hk H
        replace H := bifT H
        refine x_if hk (b := true) rfl ?_
        refine (show Code.wpIn _ _ _ _ _ _ _ from ?_)
        refine wpIn_region_lit ?_
        refine x_run tab hk (k := 3) (lv := []) (ks := [22]) (e' := [(22, .pointer (some ⟨bp0, 0, none⟩))]) rfl trivial fun a hk => ?_
        refine x_op hk rfl ?_
        refine op_store tab hk (t := 3) (v := .int .i64 1) (b := bp0) (k := 0) (cs' := [.int .i64 1, .bool p0.order_private_, .bool p0.order_wrong, .bool p0.order_any, .bool p0.order_some, .int .i64 p0.order_n, .slice Ap0_0 (p0.order_nums).length cp0_0, .string p0.text, .int .u8 p0.runes_Lead, .int .i32 p0.runes_Rune, .int .i64 p0.runes_Need, .slice Ap0_1 (p0.out).length cp0_1]) rfl rfl rfl rfl rfl rfl f900019 rfl rfl fun w31 o32 st33 f900019_ => ?_
        replace f900000 := f900000.st st33 (by decide)
        replace f900001 := f900001.st st33 (by decide)
        replace hs := hs.locQ st33 hob rfl
        replace f900019 := f900019_
        refine wpListIn_nil ?_
        refine blk_n ?_
        refine then_n ?_
        refine x_seq ?_
        refine wpIn_region_lit ?_
        refine x_run tab hk (k := 1) (lv := []) (ks := [4]) (e' := [(4, .bool true)]) rfl trivial fun a hk => ?_
        refine wpListIn_nil ?_
        refine then_n ?_
        refine wpIn_ret ?_
        obtain rfl := Option.some.inj H
        exact x_retG hk (rs := [.tmp 4]) (vs := [.bool true]) rfl ⟨rfl, trivial⟩ ⟨cl w oi o [2, 3, 4] (fun l_ => if l_ = 1 then LF else if l_ = 2 then Lp0 else if l_ = 3 then Lp0_0 else if l_ = 4 then Lp0_1 else 0) o32, Ap0_0, cp0_0, Ap0_1, cp0_1, rfl, hs.closeF (Lm := [Lp0, Lp0_0, Lp0_1]) (Sh := []) hoa rfl (fun l_ => if l_ = 1 then LF else if l_ = 2 then Lp0 else if l_ = 3 then Lp0_0 else if l_ = 4 then Lp0_1 else 0), hs.closeM_ft (o := o) (ρ := fun l_ => if l_ = 1 then LF else if l_ = 2 then Lp0 else if l_ = 3 then Lp0_0 else if l_ = 4 then Lp0_1 else 0) f900019 (lab_at hoa (i := 1) rfl) rfl, hs.closeM_ft (o := o) (ρ := fun l_ => if l_ = 1 then LF else if l_ = 2 then Lp0 else if l_ = 3 then Lp0_0 else if l_ = 4 then Lp0_1 else 0) f900000 (lab_at hoa (i := 2) rfl) rfl, hcp0_0, f900001.conv (fun _ h_ => hs.closeM_ft (o := o) (ρ := fun l_ => if l_ = 1 then LF else if l_ = 2 then Lp0 else if l_ = 3 then Lp0_0 else if l_ = 4 then Lp0_1 else 0) h_ (lab_at hoa (i := 3) rfl) rfl) (fun _ h_ => hs.closeM_ft (o := o) (ρ := fun l_ => if l_ = 1 then LF else if l_ = 2 then Lp0 else if l_ = 3 then Lp0_0 else if l_ = 4 then Lp0_1 else 0) h_ (lab_at hoa (i := 0) rfl) rfl), hcp0_1⟩
    · rw [b11] at hk H
      replace H := bifT H
      refine x_if hk (b := true) rfl ?_
      refine (show Code.wpIn _ _ _ _ _ _ _ from ?_)
      refine wpIn_region_lit ?_
      refine x_run tab hk (k := 3) (lv := []) (ks := [16]) (e' := [(16, .pointer (some ⟨bp0, 0, none⟩))]) rfl trivial fun a hk => ?_
      refine x_op hk rfl ?_
      refine op_store tab hk (t := 3) (v := .int .i64 0) (b := bp0) (k := 0) (cs' := [.int .i64 0, .bool p0.order_private_, .bool p0.order_wrong, .bool p0.order_any, .bool p0.order_some, .int .i64 p0.order_n, .slice Ap0_0 (p0.order_nums).length cp0_0, .string p0.text, .int .u8 p0.runes_Lead, .int .i32 p0.runes_Rune, .int .i64 p0.runes_Need, .slice Ap0_1 (p0.out).length cp0_1]) rfl rfl rfl rfl rfl rfl f900019 rfl rfl fun w34 o35 st36 f900019_ => ?_
      replace f900000 := f900000.st st36 (by decide)
      replace f900001 := f900001.st st36 (by decide)
      replace hs := hs.locQ st36 hob rfl
      replace f900019 := f900019_
      refine wpListIn_nil ?_
      refine blk_n ?_
      refine then_n ?_
      refine x_seq ?_
      refine wpIn_region_lit ?_
      refine x_run tab hk (k := 1) (lv := []) (ks := [4]) (e' := [(4, .bool true)]) rfl trivial fun a hk => ?_
      refine wpListIn_nil ?_
      refine then_n ?_
      refine wpIn_ret ?_
      obtain rfl := Option.some.inj H
      exact x_retG hk (rs := [.tmp 4]) (vs := [.bool true]) rfl ⟨rfl, trivial⟩ ⟨cl w oi o [2, 3, 4] (fun l_ => if l_ = 1 then LF else if l_ = 2 then Lp0 else if l_ = 3 then Lp0_0 else if l_ = 4 then Lp0_1 else 0) o35, Ap0_0, cp0_0, Ap0_1, cp0_1, rfl, hs.closeF (Lm := [Lp0, Lp0_0, Lp0_1]) (Sh := []) hoa rfl (fun l_ => if l_ = 1 then LF else if l_ = 2 then Lp0 else if l_ = 3 then Lp0_0 else if l_ = 4 then Lp0_1 else 0), hs.closeM_ft (o := o) (ρ := fun l_ => if l_ = 1 then LF else if l_ = 2 then Lp0 else if l_ = 3 then Lp0_0 else if l_ = 4 then Lp0_1 else 0) f900019 (lab_at hoa (i := 1) rfl) rfl, hs.closeM_ft (o := o) (ρ := fun l_ => if l_ = 1 then LF else if l_ = 2 then Lp0 else if l_ = 3 then Lp0_0 else if l_ = 4 then Lp0_1 else 0) f900000 (lab_at hoa (i := 2) rfl) rfl, hcp0_0, f900001.conv (fun _ h_ => hs.closeM_ft (o := o) (ρ := fun l_ => if l_ = 1 then LF else if l_ = 2 then Lp0 else if l_ = 3 then Lp0_0 else if l_ = 4 then Lp0_1 else 0) h_ (lab_at hoa (i := 3) rfl) rfl) (fun _ h_ => hs.closeM_ft (o := o) (ρ := fun l_ => if l_ = 1 then LF else if l_ = 2 then Lp0 else if l_ = 3 then Lp0_0 else if l_ = 4 then Lp0_1 else 0) h_ (lab_at hoa (i := 0) rfl) rfl), hcp0_1⟩
  refine wpIn_region_lit ?_
  refine x_run tab hk (k := 3) (lv := []) (ks := [0, 1, 10]) (e' := [(0, .pointer (some ⟨bp0, 0, none⟩)), (1, .int .u8 p1), (10, .bool (p1 == (24 : Int)))]) rfl trivial fun a hk => ?_
  cases b37 : (p1 == (24 : Int))
  · rw [b37] at hk H
    replace H := bifF H
    refine x_run tab hk (k := 4) (lv := []) (ks := [0, 1, 7]) (e' := [(0, .pointer (some ⟨bp0, 0, none⟩)), (1, .int .u8 p1), (7, .bool (p1 == (26 : Int)))]) rfl trivial fun a hk => ?_
    refine wpListIn_nil ?_
    refine then_n ?_
    exact ⟨oi, (p1 == (26 : Int)), (by exact Kn.pick (ks := [0, 1, 7]) hk rfl), hs, f900000, f900001, f900019, H⟩
  · rw [b37] at hk H
    replace H := bifT H
    refine x_run tab hk (k := 4) (lv := []) (ks := [0, 1, 7]) (e' := [(0, .pointer (some ⟨bp0, 0, none⟩)), (1, .int .u8 p1), (7, .bool true)]) rfl trivial fun a hk => ?_
    refine wpListIn_nil ?_
    refine then_n ?_
    exact ⟨oi, true, (by exact Kn.pick (ks := [0, 1, 7]) hk rfl), hs, f900000, f900001, f900019, H⟩

/-! (*tidewrack/seq.Parser).onCommand -/
theorem seq_Parser_onCommand_calls (bp0 : Nat) (Ap0_0 : Option Addr) (cp0_0 : Nat) (Ap0_1 : Option Addr) (cp0_1 : Nat) (p0 : T47) (p1 : Int) (w : World) (o : Nat → Nat) (LF : Nat) (Lp0 : Nat) (hp0 : Ft (Bx bp0 48 [.int .i64 p0.state, .bool p0.order_private_, .bool p0.order_wrong, .bool p0.order_any, .bool p0.order_some, .int .i64 p0.order_n, .slice Ap0_0 (p0.order_nums).length cp0_0, .string p0.text, .int .u8 p0.runes_Lead, .int .i32 p0.runes_Rune, .int .i64 p0.runes_Need, .slice Ap0_1 (p0.out).length cp0_1]) w o Lp0) (Lp0_0 : Nat) (hp0_0 : Ft (Own (encInt .i64) 3 (.slice Ap0_0 (p0.order_nums).length cp0_0) p0.order_nums) w o Lp0_0) (hcp0_0 : (p0.order_nums).length ≤ cp0_0) (Lp0_1 : Nat) (hp0_1 : NOwn dT50 51 Ap0_1 cp0_1 p0.out w o Lp0_1 LF) (hcp0_1 : (p0.out).length ≤ cp0_1) (hd0 : ([LF, Lp0, Lp0_0, Lp0_1] : List Nat).Nodup) (r : T47) (H : seq_Parser_onCommand p0 p1 = some r) :
    Calls Tryd.prog 80 #[.pointer (some ⟨bp0, 0, none⟩), .int .u8 p1] w (Ret fun v_ w' => ∃ o' : Nat → Nat, ∃ A0 : Option Addr, ∃ c0 : Nat, ∃ A1 : Option Addr, ∃ c1 : Nat, v_ = .tuple #[] ∧ St [Lp0, Lp0_0, Lp0_1] w o w' o' ∧ Ft (Bx bp0 48 [.int .i64 r.state, .bool r.order_private_, .bool r.order_wrong, .bool r.order_any, .bool r.order_some, .int .i64 r.order_n, .slice A0 (r.order_nums).length c0, .string r.text, .int .u8 r.runes_Lead, .int .i32 r.runes_Rune, .int .i64 r.runes_Need, .slice A1 (r.out).length c1]) w' o' Lp0 ∧ CO (encInt .i64) 3 A0 c0 (r.order_nums) (r.state == (3 : Int)) w' o' Lp0_0 LF ∧ (r.order_nums).length ≤ c0 ∧ NOwn dT50 51 A1 c1 r.out w' o' Lp0_1 LF ∧ (r.out).length ≤ c1) := by
  refine x_enter (vs := [.pointer (some ⟨bp0, 0, none⟩), .int .u8 p1]) Tryd.func80 rfl rfl rfl fun a hk => ?_
  obtain ⟨oi, hs0, h0, h1, hob, hoz, hoa⟩ := St.startM2 w o (m := 4) hd0 rfl
  have hs := hs0 [2, 3, 4]
  have f900000 := h1 2 3 hp0_0 rfl rfl
  have f900001 := hp0_1.conv (fun _ h_ => h1 3 4 h_ rfl rfl) (fun _ h_ => h1 0 1 h_ rfl rfl)
  have f900019 := h1 1 2 hp0 rfl rfl
  clear h0 h1 hs0
  rw [seq_Parser_onCommand] at H
  refine x_seq ?_
  refine x_seq ?_
  refine wpIn_region_lit ?_
  refine x_run tab hk (k := 2) (lv := []) (ks := [0, 1, 5, 6]) (e' := [(0, .pointer (some ⟨bp0, 0, none⟩)), (1, .int .u8 p1), (5, .pointer (some ⟨bp0, 0, none⟩)), (6, .int .u8 p1)]) rfl trivial fun a hk => ?_
  refine x_op hk rfl ?_
  obtain ⟨t4, hc5, H⟩ := bindS H
  refine op_call hk ent_106 (vs := [.pointer (some ⟨bp0, 0, none⟩), .int .u8 p1]) rfl (seq_Parser_common_ofown_calls bp0 Ap0_0 cp0_0 Ap0_1 cp0_1 p0 p1 _ oi 1 2 f900019 3 f900000 hcp0_0 4 f900001 hcp0_1 (by decide)   _ hc5) ?_
  rintro _ w6 ⟨o7, A10, c11, A14, c15, rfl, st8, f9, f12, hc13, f16, hc17⟩
  replace hs := hs.locQ st8 hob rfl
  have hk := hk.put 7 (.bool t4.1) rfl
  refine wpListIn_nil ?_
  refine then_n ?_
  cases b18 : t4.1
  · rw [b18] at hk H
    replace H := bifF H
    refine x_if hk (b := false) rfl ?_
    refine (show Code.wpIn _ _ _ _ _ _ _ from ?_)
    refine wpIn_skip ?_
    refine then_n ?_
    refine x_seq ?_
    refine wpIn_region_lit ?_
    refine x_run tab hk (k := 7) (lv := [.bool t4.2.order_any]) (ks := [0, 1, 4]) (e' := [(0, .pointer (some ⟨bp0, 0, none⟩)), (1, .int .u8 p1), (4, .bool (!t4.2.order_any))]) rfl ⟨(load1 tab rfl ((Bx.cell f9.now 3).trans rfl)), trivial⟩ fun a hk => ?_
    refine wpListIn_nil ?_
    refine then_n ?_
    refine x_seq ?_
    refine wpIn_region_lit ?_
    refine x_run tab hk (k := 4) (lv := []) (ks := [0, 1, 4, 17]) (e' := [(0, .pointer (some ⟨bp0, 0, none⟩)), (1, .int .u8 p1), (4, .bool (!t4.2.order_any)), (17, .pointer (some ((⟨bp0, 0, none⟩ : Addr).add 3)))]) rfl trivial fun a hk => ?_
    refine x_op hk rfl ?_
    refine op_store tab hk (t := 4) (v := .bool true) (b := bp0) (k := 3) (cs' := [.int .i64 t4.2.state, .bool t4.2.order_private_, .bool t4.2.order_wrong, .bool true, .bool t4.2.order_some, .int .i64 t4.2.order_n, .slice A10 (t4.2.order_nums).length c11, .string t4.2.text, .int .u8 t4.2.runes_Lead, .int .i32 t4.2.runes_Rune, .int .i64 t4.2.runes_Need, .slice A14 (t4.2.out).length c15]) rfl rfl rfl rfl rfl rfl f9 rfl rfl fun w19 o20 st21 f9_ => ?_
    replace f12 := f12.st st21 (by decide)
    replace f16 := f16.st st21 (by decide)
    replace hs := hs.locQ st21 hob rfl
    replace f9 := f9_
    refine wpListIn_nil ?_
    refine then_n ?_
    refine wpIn_block ?_
    refine x_mid (fun a_ w_ => ∃ o29 : Nat → Nat, ∃ x30 : Bool, Kn 83 a_ [(0, .pointer (some ⟨bp0, 0, none⟩)), (1, .int .u8 p1), (4, .bool (!t4.2.order_any)), (22, .bool x30)] ∧ St [2, 3, 4] w oi w_ o29 ∧ Ft (Own (encInt .i64) 3 (.slice A10 (t4.2.order_nums).length c11) t4.2.order_nums) w_ o29 3 ∧ NOwn dT50 51 A14 c15 t4.2.out w_ o29 4 1 ∧ Ft (Bx bp0 48 [.int .i64 t4.2.state, .bool t4.2.order_private_, .bool t4.2.order_wrong, .bool true, .bool t4.2.order_some, .int .i64 t4.2.order_n, .slice A10 (t4.2.order_nums).length c11, .string t4.2.text, .int .u8 t4.2.runes_Lead, .int .i32 t4.2.runes_Rune, .int .i64 t4.2.runes_Need, .slice A14 (t4.2.out).length c15]) w_ o29 2 ∧ seq_Parser_onCommand_j1 p1 t4 x30 = some r) ?_ ?_
    rotate_left
    · rintro a w31 ⟨o29, x30, hk, hs, f12, f16, f9, H⟩
      rw [seq_Parser_onCommand_j1] at H
      cases b32 : x30
      · rw [b32] at hk H
        replace H := bifF H
        refine x_if hk (b := false) rfl ?_
        refine (show Code.wpIn _ _ _ _ _ _ _ from ?_)
        refine x_mid (fun a_ w_ => ∃ o40 : Nat → Nat, ∃ x41 : Bool, Kn 83 a_ [(0, .pointer (some ⟨bp0, 0, none⟩)), (1, .int .u8 p1), (4, .bool (!t4.2.order_any)), (48, .bool x41)] ∧ St [2, 3, 4] w oi w_ o40 ∧ Ft (Own (encInt .i64) 3 (.slice A10 (t4.2.order_nums).length c11) t4.2.order_nums) w_ o40 3 ∧ NOwn dT50 51 A14 c15 t4.2.out w_ o40 4 1 ∧ Ft (Bx bp0 48 [.int .i64 t4.2.state, .bool t4.2.order_private_, .bool t4.2.order_wrong, .bool true, .bool t4.2.order_some, .int .i64 t4.2.order_n, .slice A10 (t4.2.order_nums).length c11, .string t4.2.text, .int .u8 t4.2.runes_Lead, .int .i32 t4.2.runes_Rune, .int .i64 t4.2.runes_Need, .slice A14 (t4.2.out).length c15]) w_ o40 2 ∧ seq_Parser_onCommand_j2 p1 t4 x41 = some r) ?_ ?_
        rotate_left
        · rintro a w42 ⟨o40, x41, hk, hs, f12, f16, f9, H⟩
          rw [seq_Parser_onCommand_j2] at H
          cases b43 : x41
          · rw [b43] at hk H
            replace H := bifF H
            refine x_if hk (b := false) rfl ?_
            refine (show Code.wpIn _ _ _ _ _ _ _ from ?_)
            refine x_mid (fun a_ w_ => ∃ o51 : Nat → Nat, ∃ x52 : Bool, Kn 83 a_ [(0, .pointer (some ⟨bp0, 0, none⟩)), (1, .int .u8 p1), (63, .bool x52)] ∧ St [2, 3, 4] w oi w_ o51 ∧ Ft (Own (encInt .i64) 3 (.slice A10 (t4.2.order_nums).length c11) t4.2.order_nums) w_ o51 3 ∧ NOwn dT50 51 A14 c15 t4.2.out w_ o51 4 1 ∧ Ft (Bx bp0 48 [.int .i64 t4.2.state, .bool t4.2.order_private_, .bool t4.2.order_wrong, .bool true, .bool t4.2.order_some, .int .i64 t4.2.order_n, .slice A10 (t4.2.order_nums).length c11, .string t4.2.text, .int .u8 t4.2.runes_Lead, .int .i32 t4.2.runes_Rune, .int .i64 t4.2.runes_Need, .slice A14 (t4.2.out).length c15]) w_ o51 2 ∧ seq_Parser_onCommand_j3 p1 t4 x52 = some r) ?_ ?_
            rotate_left
            · rintro a w53 ⟨o51, x52, hk, hs, f12, f16, f9, H⟩
              rw [seq_Parser_onCommand_j3] at H
              cases b54 : x52
              · rw [b54] at hk H
                replace H := bifF H
                refine x_if hk (b := false) rfl ?_
                refine (show Code.wpIn _ _ _ _ _ _ _ from ?_)
                refine x_mid (fun a_ w_ => ∃ o62 : Nat → Nat, ∃ x63 : Bool, Kn 83 a_ [(0, .pointer (some ⟨bp0, 0, none⟩)), (1, .int .u8 p1), (73, .bool x63)] ∧ St [2, 3, 4] w oi w_ o62 ∧ Ft (Own (encInt .i64) 3 (.slice A10 (t4.2.order_nums).length c11) t4.2.order_nums) w_ o62 3 ∧ NOwn dT50 51 A14 c15 t4.2.out w_ o62 4 1 ∧ Ft (Bx bp0 48 [.int .i64 t4.2.state, .bool t4.2.order_private_, .bool t4.2.order_wrong, .bool true, .bool t4.2.order_some, .int .i64 t4.2.order_n, .slice A10 (t4.2.order_nums).length c11, .string t4.2.text, .int .u8 t4.2.runes_Lead, .int .i32 t4.2.runes_Rune, .int .i64 t4.2.runes_Need, .slice A14 (t4.2.out).length c15]) w_ o62 2 ∧ seq_Parser_onCommand_j4 p1 t4 x63 = some r) ?_ ?_
                rotate_left
                · rintro a w64 ⟨o62, x63, hk, hs, f12, f16, f9, H⟩
                  rw [seq_Parser_onCommand_j4] at H
                  cases b65 : x63
                  · rw [b65] at hk H
                    replace H := bifF H
                    refine x_if hk (b := false) rfl ?_
                    refine (show Code.wpIn _ _ _ _ _ _ _ from ?_)
                    refine wpIn_region_lit ?_
                    refine x_run tab hk (k := 4) (lv := []) (ks := [21]) (e' := [(21, .pointer (some ((⟨bp0, 0, none⟩ : Addr).add 2)))]) rfl trivial fun a hk => ?_
                    refine x_op hk rfl ?_
                    refine op_store tab hk (t := 4) (v := .bool true) (b := bp0) (k := 2) (cs' := [.int .i64 t4.2.state, .bool t4.2.order_private_, .bool true, .bool true, .bool t4.2.order_some, .int .i64 t4.2.order_n, .slice A10 (t4.2.order_nums).length c11, .string t4.2.text, .int .u8 t4.2.runes_Lead, .int .i32 t4.2.runes_Rune, .int .i64 t4.2.runes_Need, .slice A14 (t4.2.out).length c15]) rfl rfl rfl rfl rfl rfl f9 rfl rfl fun w66 o67 st68 f9_ => ?_
                    replace f12 := f12.st st68 (by decide)
                    replace f16 := f16.st st68 (by decide)
                    replace hs := hs.locQ st68 hob rfl
                    replace f9 := f9_
                    refine wpListIn_nil ?_
                    refine blk_n ?_
                    obtain rfl := Option.some.inj H
                    exact x_endG hk (rs := []) (vs := []) rfl trivial ⟨cl w oi o [2, 3, 4] (fun l_ => if l_ = 1 then LF else if l_ = 2 then Lp0 else if l_ = 3 then Lp0_0 else if l_ = 4 then Lp0_1 else 0) o67, A10, c11, A14, c15, rfl, hs.closeF (Lm := [Lp0, Lp0_0, Lp0_1]) (Sh := []) hoa rfl (fun l_ => if l_ = 1 then LF else if l_ = 2 then Lp0 else if l_ = 3 then Lp0_0 else if l_ = 4 then Lp0_1 else 0), hs.closeM_ft (o := o) (ρ := fun l_ => if l_ = 1 then LF else if l_ = 2 then Lp0 else if l_ = 3 then Lp0_0 else if l_ = 4 then Lp0_1 else 0) f9 (lab_at hoa (i := 1) rfl) rfl, (CO.of_own (hs.closeM_ft (o := o) (ρ := fun l_ => if l_ = 1 then LF else if l_ = 2 then Lp0 else if l_ = 3 then Lp0_0 else if l_ = 4 then Lp0_1 else 0) f12 (lab_at hoa (i := 2) rfl) rfl) _ _), hc13, f16.conv (fun _ h_ => hs.closeM_ft (o := o) (ρ := fun l_ => if l_ = 1 then LF else if l_ = 2 then Lp0 else if l_ = 3 then Lp0_0 else if l_ = 4 then Lp0_1 else 0) h_ (lab_at hoa (i := 3) rfl) rfl) (fun _ h_ => hs.closeM_ft (o := o) (ρ := fun l_ => if l_ = 1 then LF else if l_ = 2 then Lp0 else if l_ = 3 then Lp0_0 else if l_ = 4 then Lp0_1 else 0) h_ (lab_at hoa (i := 0) rfl) rfl), hc17⟩
                  · rw [b65] at hk H
                    replace H := bifT H
                    refine x_if hk (b := true) rfl ?_
                    refine (show Code.wpIn _ _ _ _ _ _ _ from ?_)
                    refine wpIn_region_lit ?_
                    refine x_run tab hk (k := 2) (lv := []) (ks := [80, 81]) (e' := [(80, .pointer (some ⟨bp0, 0, none⟩)), (81, .int .u8 p1)]) rfl trivial fun a hk => ?_
                    refine x_op hk rfl ?_
                    obtain ⟨t72, hc73, H⟩ := bindS H
                    refine op_call hk ent_109 (vs := [.pointer (some ⟨bp0, 0, none⟩), .int .u8 p1]) rfl (seq_Parser_finish_calls bp0 A10 c11 A14 c15 (⟨t4.2.state, t4.2.order_private_, t4.2.order_wrong, true, t4.2.order_some, t4.2.order_n, t4.2.order_nums, t4.2.text, t4.2.runes_Lead, t4.2.runes_Rune, t4.2.runes_Need, t4.2.out⟩ : T47) p1 _ o62 1 2 f9 3 f12 hc13 4 f16 hc17 (by decide)   _ hc73) ?_
                    rintro _ w74 ⟨o75, A78, c79, A82, c83, rfl, st76, f77, f80, hc81, f84, hc85⟩
                    replace hs := hs.locQ st76 hob rfl
                    have hk := hk.put 82 (.tuple #[]) rfl
                    refine wpListIn_nil ?_
                    refine blk_n ?_
                    obtain rfl := Option.some.inj H
                    exact x_endG hk (rs := []) (vs := []) rfl trivial ⟨cl w oi o [2, 3, 4] (fun l_ => if l_ = 1 then LF else if l_ = 2 then Lp0 else if l_ = 3 then Lp0_0 else if l_ = 4 then Lp0_1 else 0) o75, A78, c79, A82, c83, rfl, hs.closeF (Lm := [Lp0, Lp0_0, Lp0_1]) (Sh := []) hoa rfl (fun l_ => if l_ = 1 then LF else if l_ = 2 then Lp0 else if l_ = 3 then Lp0_0 else if l_ = 4 then Lp0_1 else 0), hs.closeM_ft (o := o) (ρ := fun l_ => if l_ = 1 then LF else if l_ = 2 then Lp0 else if l_ = 3 then Lp0_0 else if l_ = 4 then Lp0_1 else 0) f77 (lab_at hoa (i := 1) rfl) rfl, f80.conv (fun _ h_ => hs.closeM_ft (o := o) (ρ := fun l_ => if l_ = 1 then LF else if l_ = 2 then Lp0 else if l_ = 3 then Lp0_0 else if l_ = 4 then Lp0_1 else 0) h_ (lab_at hoa (i := 2) rfl) rfl) (fun _ h_ => hs.closeM_ft (o := o) (ρ := fun l_ => if l_ = 1 then LF else if l_ = 2 then Lp0 else if l_ = 3 then Lp0_0 else if l_ = 4 then Lp0_1 else 0) h_ (lab_at hoa (i := 0) rfl) rfl), hc81, f84.conv (fun _ h_ => hs.closeM_ft (o := o) (ρ := fun l_ => if l_ = 1 then LF else if l_ = 2 then Lp0 else if l_ = 3 then Lp0_0 else if l_ = 4 then Lp0_1 else 0) h_ (lab_at hoa (i := 3) rfl) rfl) (fun _ h_ => hs.closeM_ft (o := o) (ρ := fun l_ => if l_ = 1 then LF else if l_ = 2 then Lp0 else if l_ = 3 then Lp0_0 else if l_ = 4 then Lp0_1 else 0) h_ (lab_at hoa (i := 0) rfl) rfl), hc85⟩
                refine wpIn_region_lit ?_
                refine x_run tab hk (k := 3) (lv := []) (ks := [0, 1, 76]) (e' := [(0, .pointer (some ⟨bp0, 0, none⟩)), (1, .int .u8 p1), (76, .bool (decide (p1 ≥ (64 : Int))))]) rfl trivial fun a hk => ?_
                cases b86 : (decide (p1 ≥ (64 : Int)))
                · rw [b86] at hk H
                  replace H := bifF H
                  refine x_run tab hk (k := 4) (lv := []) (ks := [0, 1, 73]) (e' := [(0, .pointer (some ⟨bp0, 0, none⟩)), (1, .int .u8 p1), (73, .bool false)]) rfl trivial fun a hk => ?_
                  refine wpListIn_nil ?_
                  refine then_n ?_
                  exact ⟨o51, false, (by exact Kn.pick (ks := [0, 1, 73]) hk rfl), hs, f12, f16, f9, H⟩
                · rw [b86] at hk H
                  replace H := bifT H
                  refine x_run tab hk (k := 4) (lv := []) (ks := [0, 1, 73]) (e' := [(0, .pointer (some ⟨bp0, 0, none⟩)), (1, .int .u8 p1), (73, .bool (decide (p1 < (127 : Int))))]) rfl trivial fun a hk => ?_
                  refine wpListIn_nil ?_
                  refine then_n ?_
                  exact ⟨o51, (decide (p1 < (127 : Int))), (by exact Kn.pick (ks := [0, 1, 73]) hk rfl), hs, f12, f16, f9, H⟩
              · rw [b54] at hk H
                replace H := bifT H
                refine x_if hk (b := true) rfl ?_
                refine (show Code.wpIn _ _ _ _ _ _ _ from ?_)
                refine wpIn_region_lit ?_
                refine x_run tab hk (k := 4) (lv := []) (ks := [72]) (e' := [(72, .pointer (some ((⟨bp0, 0, none⟩ : Addr).add 1)))]) rfl trivial fun a hk => ?_
                refine x_op hk rfl ?_
                refine op_store tab hk (t := 4) (v := .bool true) (b := bp0) (k := 1) (cs' := [.int .i64 t4.2.state, .bool true, .bool t4.2.order_wrong, .bool true, .bool t4.2.order_some, .int .i64 t4.2.order_n, .slice A10 (t4.2.order_nums).length c11, .string t4.2.text, .int .u8 t4.2.runes_Lead, .int .i32 t4.2.runes_Rune, .int .i64 t4.2.runes_Need, .slice A14 (t4.2.out).length c15]) rfl rfl rfl rfl rfl rfl f9 rfl rfl fun w87 o88 st89 f9_ => ?_
                replace f12 := f12.st st89 (by decide)
                replace f16 := f16.st st89 (by decide)
                replace hs := hs.locQ st89 hob rfl
                replace f9 := f9_
                refine wpListIn_nil ?_
                refine blk_n ?_
                obtain rfl := Option.some.inj H
                exact x_endG hk (rs := []) (vs := []) rfl trivial ⟨cl w oi o [2, 3, 4] (fun l_ => if l_ = 1 then LF else if l_ = 2 then Lp0 else if l_ = 3 then Lp0_0 else if l_ = 4 then Lp0_1 else 0) o88, A10, c11, A14, c15, rfl, hs.closeF (Lm := [Lp0, Lp0_0, Lp0_1]) (Sh := []) hoa rfl (fun l_ => if l_ = 1 then LF else if l_ = 2 then Lp0 else if l_ = 3 then Lp0_0 else if l_ = 4 then Lp0_1 else 0), hs.closeM_ft (o := o) (ρ := fun l_ => if l_ = 1 then LF else if l_ = 2 then Lp0 else if l_ = 3 then Lp0_0 else if l_ = 4 then Lp0_1 else 0) f9 (lab_at hoa (i := 1) rfl) rfl, (CO.of_own (hs.closeM_ft (o := o) (ρ := fun l_ => if l_ = 1 then LF else if l_ = 2 then Lp0 else if l_ = 3 then Lp0_0 else if l_ = 4 then Lp0_1 else 0) f12 (lab_at hoa (i := 2) rfl) rfl) _ _), hc13, f16.conv (fun _ h_ => hs.closeM_ft (o := o) (ρ := fun l_ => if l_ = 1 then LF else if l_ = 2 then Lp0 else if l_ = 3 then Lp0_0 else if l_ = 4 then Lp0_1 else 0) h_ (lab_at hoa (i := 3) rfl) rfl) (fun _ h_ => hs.closeM_ft (o := o) (ρ := fun l_ => if l_ = 1 then LF else if l_ = 2 then Lp0 else if l_ = 3 then Lp0_0 else if l_ = 4 then Lp0_1 else 0) h_ (lab_at hoa (i := 0) rfl) rfl), hc17⟩
            refine wpIn_region_lit ?_
            refine x_run tab hk (k := 3) (lv := []) (ks := [0, 1, 4, 66]) (e' := [(0, .pointer (some ⟨bp0, 0, none⟩)), (1, .int .u8 p1), (4, .bool (!t4.2.order_any)), (66, .bool (p1 == (63 : Int)))]) rfl trivial fun a hk => ?_
            cases b90 : (p1 == (63 : Int))
            · rw [b90] at hk H
              replace H := bifF H
              refine x_run tab hk (k := 3) (lv := []) (ks := [0, 1, 63]) (e' := [(0, .pointer (some ⟨bp0, 0, none⟩)), (1, .int .u8 p1), (63, .bool false)]) rfl trivial fun a hk => ?_
              refine wpListIn_nil ?_
              refine then_n ?_
              exact ⟨o40, false, (by exact Kn.pick (ks := [0, 1, 63]) hk rfl), hs, f12, f16, f9, H⟩
            · rw [b90] at hk H
              replace H := bifT H
              refine x_run tab hk (k := 3) (lv := []) (ks := [0, 1, 63]) (e' := [(0, .pointer (some ⟨bp0, 0, none⟩)), (1, .int .u8 p1), (63, .bool (!t4.2.order_any))]) rfl trivial fun a hk => ?_
              refine wpListIn_nil ?_
              refine then_n ?_
              exact ⟨o40, (!t4.2.order_any), (by exact Kn.pick (ks := [0, 1, 63]) hk rfl), hs, f12, f16, f9, H⟩
          · rw [b43] at hk H
            replace H := bifT H
            refine x_if hk (b := true) rfl ?_
            refine (show Code.wpIn _ _ _ _ _ _ _ from ?_)
            refine x_seq ?_
            refine wpIn_region_lit ?_
            refine x_run tab hk (k := 3) (lv := []) (ks := [0, 57]) (e' := [(0, .pointer (some ⟨bp0, 0, none⟩)), (57, .pointer (some ((⟨bp0, 0, none⟩ : Addr).add 1)))]) rfl trivial fun a hk => ?_
            refine x_op hk rfl ?_
            obtain ⟨t94, hc95, H⟩ := bindS H
            refine op_call hk ent_108 (vs := [.pointer (some ((⟨bp0, 0, none⟩ : Addr).add 1))]) rfl (seq_order_push_of48_1_calls bp0 A10 c11 A14 c15 (⟨t4.2.state, t4.2.order_private_, t4.2.order_wrong, true, t4.2.order_some, t4.2.order_n, t4.2.order_nums, t4.2.text, t4.2.runes_Lead, t4.2.runes_Rune, t4.2.runes_Need, t4.2.out⟩ : T47) _ o40 1 2 f9 3 f12 hc13 (by decide)   _ hc95) ?_
            rintro _ w96 ⟨o97, A100, c101, rfl, st98, f99, f102, hc103⟩
            replace f16 := f16.st st98 (by decide)
            replace hs := hs.locQ st98 hob rfl
            have hk := hk.put 58 (.tuple #[]) rfl
            refine wpListIn_nil ?_
            refine then_n ?_
            refine wpIn_region_lit ?_
            refine x_run tab hk (k := 4) (lv := []) (ks := [62]) (e' := [(62, .pointer (some ((⟨bp0, 0, none⟩ : Addr).add 4)))]) rfl trivial fun a hk => ?_
            refine x_op hk rfl ?_
            refine op_store tab hk (t := 4) (v := .bool true) (b := bp0) (k := 4) (cs' := [.int .i64 t4.2.state, .bool t94.private_, .bool t94.wrong, .bool t94.any, .bool true, .int .i64 t94.n, .slice A100 (t94.nums).length c101, .string t4.2.text, .int .u8 t4.2.runes_Lead, .int .i32 t4.2.runes_Rune, .int .i64 t4.2.runes_Need, .slice A14 (t4.2.out).length c15]) rfl rfl rfl rfl rfl rfl f99 rfl rfl fun w104 o105 st106 f99_ => ?_
            replace f102 := f102.st st106 (by decide)
            replace f16 := f16.st st106 (by decide)
            replace hs := hs.locQ st106 hob rfl
            replace f99 := f99_
            refine wpListIn_nil ?_
            refine blk_n ?_
            obtain rfl := Option.some.inj H
            exact x_endG hk (rs := []) (vs := []) rfl trivial ⟨cl w oi o [2, 3, 4] (fun l_ => if l_ = 1 then LF else if l_ = 2 then Lp0 else if l_ = 3 then Lp0_0 else if l_ = 4 then Lp0_1 else 0) o105, A100, c101, A14, c15, rfl, hs.closeF (Lm := [Lp0, Lp0_0, Lp0_1]) (Sh := []) hoa rfl (fun l_ => if l_ = 1 then LF else if l_ = 2 then Lp0 else if l_ = 3 then Lp0_0 else if l_ = 4 then Lp0_1 else 0), hs.closeM_ft (o := o) (ρ := fun l_ => if l_ = 1 then LF else if l_ = 2 then Lp0 else if l_ = 3 then Lp0_0 else if l_ = 4 then Lp0_1 else 0) f99 (lab_at hoa (i := 1) rfl) rfl, (CO.of_own (hs.closeM_ft (o := o) (ρ := fun l_ => if l_ = 1 then LF else if l_ = 2 then Lp0 else if l_ = 3 then Lp0_0 else if l_ = 4 then Lp0_1 else 0) f102 (lab_at hoa (i := 2) rfl) rfl) _ _), hc103, f16.conv (fun _ h_ => hs.closeM_ft (o := o) (ρ := fun l_ => if l_ = 1 then LF else if l_ = 2 then Lp0 else if l_ = 3 then Lp0_0 else if l_ = 4 then Lp0_1 else 0) h_ (lab_at hoa (i := 3) rfl) rfl) (fun _ h_ => hs.closeM_ft (o := o) (ρ := fun l_ => if l_ = 1 then LF else if l_ = 2 then Lp0 else if l_ = 3 then Lp0_0 else if l_ = 4 then Lp0_1 else 0) h_ (lab_at hoa (i := 0) rfl) rfl), hc17⟩
        refine wpIn_region_lit ?_
        refine x_run tab hk (k := 3) (lv := []) (ks := [0, 1, 4, 51]) (e' := [(0, .pointer (some ⟨bp0, 0, none⟩)), (1, .int .u8 p1), (4, .bool (!t4.2.order_any)), (51, .bool (p1 == (59 : Int)))]) rfl trivial fun a hk => ?_
        cases b107 : (p1 == (59 : Int))
        · rw [b107] at hk H
          replace H := bifF H
          refine x_run tab hk (k := 4) (lv := []) (ks := [0, 1, 4, 48]) (e' := [(0, .pointer (some ⟨bp0, 0, none⟩)), (1, .int .u8 p1), (4, .bool (!t4.2.order_any)), (48, .bool (p1 == (58 : Int)))]) rfl trivial fun a hk => ?_
          refine wpListIn_nil ?_
          refine then_n ?_
          exact ⟨o29, (p1 == (58 : Int)), (by exact Kn.pick (ks := [0, 1, 4, 48]) hk rfl), hs, f12, f16, f9, H⟩
        · rw [b107] at hk H
          replace H := bifT H
          refine x_run tab hk (k := 4) (lv := []) (ks := [0, 1, 4, 48]) (e' := [(0, .pointer (some ⟨bp0, 0, none⟩)), (1, .int .u8 p1), (4, .bool (!t4.2.order_any)), (48, .bool true)]) rfl trivial fun a hk => ?_
          refine wpListIn_nil ?_
          refine then_n ?_
          exact ⟨o29, true, (by exact Kn.pick (ks := [0, 1, 4, 48]) hk rfl), hs, f12, f16, f9, H⟩
      · rw [b32] at hk H
        replace H := bifT H
        refine x_if hk (b := true) rfl ?_
        refine (show Code.wpIn _ _ _ _ _ _ _ from ?_)
        refine wpIn_region_lit ?_
        refine x_run tab hk (k := 10) (lv := [.int .i64 t4.2.order_n]) (ks := [29, 30, 36, 38]) (e' := [(29, .pointer (some ⟨bp0, 0, none⟩)), (30, .pointer (some ⟨bp0, 0, none⟩)), (36, .int .i64 (IntKind.wrap .i64 (10 * t4.2.order_n))), (38, .int .u8 (IntKind.wrap .u8 (p1 - 48)))]) rfl ⟨(load1 tab rfl ((Bx.cell f9.now 5).trans rfl)), trivial⟩ fun a hk => ?_
        refine x_run tab hk (k := 6) (lv := []) (ks := [30, 41, 44]) (e' := [(30, .pointer (some ⟨bp0, 0, none⟩)), (41, .int .i64 (mnI (IntKind.wrap .i64 ((IntKind.wrap .i64 (10 * t4.2.order_n)) + (IntKind.wrap .i64 (IntKind.wrap .u8 (p1 - 48))))) 9999)), (44, .pointer (some ((⟨bp0, 0, none⟩ : Addr).add 5)))]) rfl trivial fun a hk => ?_
        refine x_op hk rfl ?_
        refine op_store tab hk (t := 3) (v := .int .i64 (mnI (IntKind.wrap .i64 ((IntKind.wrap .i64 (10 * t4.2.order_n)) + (IntKind.wrap .i64 (IntKind.wrap .u8 (p1 - 48))))) 9999)) (b := bp0) (k := 5) (cs' := [.int .i64 t4.2.state, .bool t4.2.order_private_, .bool t4.2.order_wrong, .bool true, .bool t4.2.order_some, .int .i64 (mnI (IntKind.wrap .i64 ((IntKind.wrap .i64 (10 * t4.2.order_n)) + (IntKind.wrap .i64 (IntKind.wrap .u8 (p1 - 48))))) 9999), .slice A10 (t4.2.order_nums).length c11, .string t4.2.text, .int .u8 t4.2.runes_Lead, .int .i32 t4.2.runes_Rune, .int .i64 t4.2.runes_Need, .slice A14 (t4.2.out).length c15]) rfl rfl rfl rfl rfl rfl f9 rfl rfl fun w108 o109 st110 f9_ => ?_
        replace f12 := f12.st st110 (by decide)
        replace f16 := f16.st st110 (by decide)
        replace hs := hs.locQ st110 hob rfl
        replace f9 := f9_
        refine x_run tab hk (k := 3) (lv := []) (ks := [47]) (e' := [(47, .pointer (some ((⟨bp0, 0, none⟩ : Addr).add 4)))]) rfl trivial fun a hk => ?_
        refine x_op hk rfl ?_
        refine op_store tab hk (t := 4) (v := .bool true) (b := bp0) (k := 4) (cs' := [.int .i64 t4.2.state, .bool t4.2.order_private_, .bool t4.2.order_wrong, .bool true, .bool true, .int .i64 (mnI (IntKind.wrap .i64 ((IntKind.wrap .i64 (10 * t4.2.order_n)) + (IntKind.wrap .i64 (IntKind.wrap .u8 (p1 - 48))))) 9999), .slice A10 (t4.2.order_nums).length c11, .string t4.2.text, .int .u8 t4.2.runes_Lead, .int .i32 t4.2.runes_Rune, .int .i64 t4.2.runes_Need, .slice A14 (t4.2.out).length c15]) rfl rfl rfl rfl rfl rfl f9 rfl rfl fun w111 o112 st113 f9_ => ?_
        replace f12 := f12.st st113 (by decide)
        replace f16 := f16.st st113 (by decide)
        replace hs := hs.locQ st113 hob rfl
        replace f9 := f9_
        refine wpListIn_nil ?_
        refine blk_n ?_
        obtain rfl := Option.some.inj H
        exact x_endG hk (rs := []) (vs := []) rfl trivial ⟨cl w oi o [2, 3, 4] (fun l_ => if l_ = 1 then LF else if l_ = 2 then Lp0 else if l_ = 3 then Lp0_0 else if l_ = 4 then Lp0_1 else 0) o112, A10, c11, A14, c15, rfl, hs.closeF (Lm := [Lp0, Lp0_0, Lp0_1]) (Sh := []) hoa rfl (fun l_ => if l_ = 1 then LF else if l_ = 2 then Lp0 else if l_ = 3 then Lp0_0 else if l_ = 4 then Lp0_1 else 0), hs.closeM_ft (o := o) (ρ := fun l_ => if l_ = 1 then LF else if l_ = 2 then Lp0 else if l_ = 3 then Lp0_0 else if l_ = 4 then Lp0_1 else 0) f9 (lab_at hoa (i := 1) rfl) rfl, (CO.of_own (hs.closeM_ft (o := o) (ρ := fun l_ => if l_ = 1 then LF else if l_ = 2 then Lp0 else if l_ = 3 then Lp0_0 else if l_ = 4 then Lp0_1 else 0) f12 (lab_at hoa (i := 2) rfl) rfl) _ _), hc13, f16.conv (fun _ h_ => hs.closeM_ft (o := o) (ρ := fun l_ => if l_ = 1 then LF else if l_ = 2 then Lp0 else if l_ = 3 then Lp0_0 else if l_ = 4 then Lp0_1 else 0) h_ (lab_at hoa (i := 3) rfl) rfl) (fun _ h_ => hs.closeM_ft (o := o) (ρ := fun l_ => if l_ = 1 then LF else if l_ = 2 then Lp0 else if l_ = 3 then Lp0_0 else if l_ = 4 then Lp0_1 else 0) h_ (lab_at hoa (i := 0) rfl) rfl), hc17⟩
    refine wpIn_region_lit ?_
    refine x_run tab hk (k := 3) (lv := []) (ks := [0, 1, 4, 25]) (e' := [(0, .pointer (some ⟨bp0, 0, none⟩)), (1, .int .u8 p1), (4, .bool (!t4.2.order_any)), (25, .bool (decide (p1 ≥ (48 : Int))))]) rfl trivial fun a hk => ?_
    cases b114 : (decide (p1 ≥ (48 : Int)))
    · rw [b114] at hk H
      replace H := bifF H
      refine x_run tab hk (k := 4) (lv := []) (ks := [0, 1, 4, 22]) (e' := [(0, .pointer (some ⟨bp0, 0, none⟩)), (1, .int .u8 p1), (4, .bool (!t4.2.order_any)), (22, .bool false)]) rfl trivial fun a hk => ?_
      refine wpListIn_nil ?_
      refine then_n ?_
      exact ⟨o20, false, (by exact Kn.pick (ks := [0, 1, 4, 22]) hk rfl), hs, f12, f16, f9, H⟩
    · rw [b114] at hk H
      replace H := bifT H
      refine x_run tab hk (k := 4) (lv := []) (ks := [0, 1, 4, 22]) (e' := [(0, .pointer (some ⟨bp0, 0, none⟩)), (1, .int .u8 p1), (4, .bool (!t4.2.order_any)), (22, .bool (decide (p1 ≤ (57 : Int))))]) rfl trivial fun a hk => ?_
      refine wpListIn_nil ?_
      refine then_n ?_
      exact ⟨o20, (decide (p1 ≤ (57 : Int))), (by exact Kn.pick (ks := [0, 1, 4, 22]) hk rfl), hs, f12, f16, f9, H⟩
  · rw [b18] at hk H
    replace H := bifT H
    refine x_if hk (b := true) rfl ?_
    refine (show Code.wpIn _ _ _ _ _ _ _ from ?_)
    refine wpIn_ret ?_
    refine then_r ?_
    obtain rfl := Option.some.inj H
    exact x_retG hk (rs := []) (vs := []) rfl trivial ⟨cl w oi o [2, 3, 4] (fun l_ => if l_ = 1 then LF else if l_ = 2 then Lp0 else if l_ = 3 then Lp0_0 else if l_ = 4 then Lp0_1 else 0) o7, A10, c11, A14, c15, rfl, hs.closeF (Lm := [Lp0, Lp0_0, Lp0_1]) (Sh := []) hoa rfl (fun l_ => if l_ = 1 then LF else if l_ = 2 then Lp0 else if l_ = 3 then Lp0_0 else if l_ = 4 then Lp0_1 else 0), hs.closeM_ft (o := o) (ρ := fun l_ => if l_ = 1 then LF else if l_ = 2 then Lp0 else if l_ = 3 then Lp0_0 else if l_ = 4 then Lp0_1 else 0) f9 (lab_at hoa (i := 1) rfl) rfl, (CO.of_own (hs.closeM_ft (o := o) (ρ := fun l_ => if l_ = 1 then LF else if l_ = 2 then Lp0 else if l_ = 3 then Lp0_0 else if l_ = 4 then Lp0_1 else 0) f12 (lab_at hoa (i := 2) rfl) rfl) _ _), hc13, f16.conv (fun _ h_ => hs.closeM_ft (o := o) (ρ := fun l_ => if l_ = 1 then LF else if l_ = 2 then Lp0 else if l_ = 3 then Lp0_0 else if l_ = 4 then Lp0_1 else 0) h_ (lab_at hoa (i := 3) rfl) rfl) (fun _ h_ => hs.closeM_ft (o := o) (ρ := fun l_ => if l_ = 1 then LF else if l_ = 2 then Lp0 else if l_ = 3 then Lp0_0 else if l_ = 4 then Lp0_1 else 0) h_ (lab_at hoa (i := 0) rfl) rfl), hc17⟩

/-! internal/stringslite.HasPrefix -/
theorem stringslite_HasPrefix_calls (p0 : ByteArray) (p1 : ByteArray) (w : World) (o : Nat → Nat)   (r : Bool) (H : stringslite_HasPrefix p0 p1 = some r) :
    Calls Tryd.prog 122 #[.string p0, .string p1] w (Ret fun v_ w' => ∃ o' : Nat → Nat, v_ = .bool r ∧ St [] w o w' o') := by
  refine x_enter (vs := [.string p0, .string p1]) Tryd.func122 rfl rfl rfl fun a hk => ?_
  obtain ⟨o0, hs, h0⟩ := St.start w o
  clear h0
  rw [stringslite_HasPrefix] at H
  refine x_seq ?_
  refine wpIn_region_lit ?_
  refine x_run tab hk (k := 1) (lv := []) (ks := [0, 1]) (e' := [(0, .string p0), (1, .string p1)]) rfl trivial fun a hk => ?_
  refine wpListIn_nil ?_
  refine then_n ?_
  refine x_seq ?_
  refine wpIn_region_lit ?_
  refine x_run tab hk (k := 6) (lv := []) (ks := [0, 1, 10]) (e' := [(0, .string p0), (1, .string p1), (10, .bool (decide (((p0).size : Int) ≥ ((p1).size : Int))))]) rfl trivial fun a hk => ?_
  cases b1 : (decide (((p0).size : Int) ≥ ((p1).size : Int)))
  · rw [b1] at hk H
    replace H := bifF H
    refine x_run tab hk (k := 8) (lv := []) (ks := [4]) (e' := [(4, .bool false)]) rfl trivial fun a hk => ?_
    refine wpListIn_nil ?_
    refine then_n ?_
    refine wpIn_ret ?_
    obtain rfl := Option.some.inj H
    exact x_retG hk (rs := [.tmp 4]) (vs := [.bool false]) rfl ⟨rfl, trivial⟩ ⟨fun b_ => if b_ < w.heap.size then o b_ else (fun _ => 0) (o0 b_), rfl, hs.close0 o (fun _ => 0)⟩
  · rw [b1] at hk H
    replace H := bifT H
    obtain ⟨q2, H⟩ := ifS H
    obtain ⟨q3, H⟩ := ifS H
    refine x_run tab hk (k := 8) (lv := []) (ks := [4]) (e' := [(4, .bool (ByteArray.toList (ByteArray.extract p0 0 (Int.toNat ((p1).size : Int))) == ByteArray.toList p1))]) rfl ⟨q2, q3, trivial⟩ fun a hk => ?_
    refine wpListIn_nil ?_
    refine then_n ?_
    refine wpIn_ret ?_
    obtain rfl := Option.some.inj H
    exact x_retG hk (rs := [.tmp 4]) (vs := [.bool (ByteArray.toList (ByteArray.extract p0 0 (Int.toNat ((p1).size : Int))) == ByteArray.toList p1)]) rfl ⟨rfl, trivial⟩ ⟨fun b_ => if b_ < w.heap.size then o b_ else (fun _ => 0) (o0 b_), rfl, hs.close0 o (fun _ => 0)⟩

/-! internal/stringslite.CutPrefix -/
theorem stringslite_CutPrefix_calls (p0 : ByteArray) (p1 : ByteArray) (w : World) (o : Nat → Nat)   (r : ByteArray × Bool) (H : stringslite_CutPrefix p0 p1 = some r) :
    Calls Tryd.prog 119 #[.string p0, .string p1] w (Ret fun v_ w' => ∃ o' : Nat → Nat, v_ = .tuple #[.string r.1, .bool r.2] ∧ St [] w o w' o') := by
  refine x_enter (vs := [.string p0, .string p1]) Tryd.func119 rfl rfl rfl fun a hk => ?_
  obtain ⟨o0, hs, h0⟩ := St.start w o
  clear h0
  rw [stringslite_CutPrefix] at H
  refine x_seq ?_
  refine wpIn_region_lit ?_
  refine x_run tab hk (k := 2) (lv := []) (ks := [0, 1]) (e' := [(0, .string p0), (1, .string p1)]) rfl trivial fun a hk => ?_
  refine wpListIn_nil ?_
  refine then_n ?_
  refine x_seq ?_
  refine x_seq ?_
  refine wpIn_region_lit ?_
  refine x_run tab hk (k := 2) (lv := []) (ks := [0, 1, 6, 7]) (e' := [(0, .string p0), (1, .string p1), (6, .string p0), (7, .string p1)]) rfl trivial fun a hk => ?_
  refine x_op hk rfl ?_
  obtain ⟨t4, hc5, H⟩ := bindS H
  refine op_call hk ent_122 (vs := [.string p0, .string p1]) rfl (stringslite_HasPrefix_calls p0 p1 _ o0    _ hc5) ?_
  rintro _ w6 ⟨o7, rfl, st8⟩
  replace hs := hs.loc0 st8 (by decide)
  have hk := hk.put 8 (.bool t4) rfl
  refine x_run tab hk (k := 1) (lv := []) (ks := [0, 1, 9]) (e' := [(0, .string p0), (1, .string p1), (9, .bool (!t4))]) rfl trivial fun a hk => ?_
  refine wpListIn_nil ?_
  refine then_n ?_
  cases b9 : (!t4)
  · rw [b9] at hk H
    replace H := bifF H
    refine x_if hk (b := false) rfl ?_
    refine (show Code.wpIn _ _ _ _ _ _ _ from ?_)
    refine wpIn_skip ?_
    refine then_n ?_
    refine x_seq ?_
    refine wpIn_region_lit ?_
    obtain ⟨q10, H⟩ := ifS H
    obtain ⟨q11, H⟩ := ifS H
    refine x_run tab hk (k := 6) (lv := []) (ks := [4, 5]) (e' := [(4, .string (ByteArray.extract p0 (Int.toNat ((p1).size : Int)) (p0).size)), (5, .bool true)]) rfl ⟨q10, q11, trivial⟩ fun a hk => ?_
    refine wpListIn_nil ?_
    refine then_n ?_
    refine wpIn_ret ?_
    obtain rfl := Option.some.inj H
    exact x_retG hk (rs := [.tmp 4, .tmp 5]) (vs := [.string (ByteArray.extract p0 (Int.toNat ((p1).size : Int)) (p0).size), .bool true]) rfl ⟨rfl, rfl, trivial⟩ ⟨fun b_ => if b_ < w.heap.size then o b_ else (fun _ => 0) (o7 b_), rfl, hs.close0 o (fun _ => 0)⟩
  · rw [b9] at hk H
    replace H := bifT H
    refine x_if hk (b := true) rfl ?_
    refine (show Code.wpIn _ _ _ _ _ _ _ from ?_)
    refine x_seq ?_
    refine wpIn_region_lit ?_
    refine x_run tab hk (k := 3) (lv := []) (ks := [4, 5]) (e' := [(4, .string p0), (5, .bool false)]) rfl trivial fun a hk => ?_
    refine wpListIn_nil ?_
    refine then_n ?_
    refine wpIn_ret ?_
    refine then_r ?_
    obtain rfl := Option.some.inj H
    exact x_retG hk (rs := [.tmp 4, .tmp 5]) (vs := [.string p0, .bool false]) rfl ⟨rfl, rfl, trivial⟩ ⟨fun b_ => if b_ < w.heap.size then o b_ else (fun _ => 0) (o7 b_), rfl, hs.close0 o (fun _ => 0)⟩

/-! strings.CutPrefix -/
theorem strings_CutPrefix_calls (p0 : ByteArray) (p1 : ByteArray) (w : World) (o : Nat → Nat)   (r : ByteArray × Bool) (H : strings_CutPrefix p0 p1 = some r) :
    Calls Tryd.prog 110 #[.string p0, .string p1] w (Ret fun v_ w' => ∃ o' : Nat → Nat, v_ = .tuple #[.string r.1, .bool r.2] ∧ St [] w o w' o') := by
  refine x_enter (vs := [.string p0, .string p1]) Tryd.func110 rfl rfl rfl fun a hk => ?_
  obtain ⟨o0, hs, h0⟩ := St.start w o
  clear h0
  rw [strings_CutPrefix] at H
  refine x_seq ?_
  refine wpIn_region_lit ?_
  refine x_run tab hk (k := 2) (lv := []) (ks := [0, 1]) (e' := [(0, .string p0), (1, .string p1)]) rfl trivial fun a hk => ?_
  refine wpListIn_nil ?_
  refine then_n ?_
  refine x_seq ?_
  refine wpIn_region_lit ?_
  refine x_run tab hk (k := 2) (lv := []) (ks := [6, 7]) (e' := [(6, .string p0), (7, .string p1)]) rfl trivial fun a hk => ?_
  refine x_op hk rfl ?_
  obtain ⟨t4, hc5, H⟩ := bindS H
  refine op_call hk ent_119 (vs := [.string p0, .string p1]) rfl (stringslite_CutPrefix_calls p0 p1 _ o0    _ hc5) ?_
  rintro _ w6 ⟨o7, rfl, st8⟩
  replace hs := hs.loc0 st8 (by decide)
  have hk := hk.put 8 (.tuple #[.string t4.1, .bool t4.2]) rfl
  refine x_run tab hk (k := 4) (lv := []) (ks := [4, 5]) (e' := [(4, .string t4.1), (5, .bool t4.2)]) rfl trivial fun a hk => ?_
  refine wpListIn_nil ?_
  refine then_n ?_
  refine wpIn_ret ?_
  obtain rfl := Option.some.inj H
  exact x_retG hk (rs := [.tmp 4, .tmp 5]) (vs := [.string t4.1, .bool t4.2]) rfl ⟨rfl, rfl, trivial⟩ ⟨fun b_ => if b_ < w.heap.size then o b_ else (fun _ => 0) (o7 b_), rfl, hs.close0 o (fun _ => 0)⟩

/-! (*tidewrack/seq.Parser).over -/
theorem seq_Parser_over_calls (K : Nat) (bp0 : Nat) (Ap0_0 : Option Addr) (cp0_0 : Nat) (Ap0_1 : Option Addr) (cp0_1 : Nat) (p0 : T47) (w : World) (o : Nat → Nat) (LF : Nat) (Lp0 : Nat) (hp0 : Ft (Bx bp0 48 [.int .i64 p0.state, .bool p0.order_private_, .bool p0.order_wrong, .bool p0.order_any, .bool p0.order_some, .int .i64 p0.order_n, .slice Ap0_0 (p0.order_nums).length cp0_0, .string p0.text, .int .u8 p0.runes_Lead, .int .i32 p0.runes_Rune, .int .i64 p0.runes_Need, .slice Ap0_1 (p0.out).length cp0_1]) w o Lp0) (Lp0_0 : Nat) (hp0_0 : CO (encInt .i64) 3 Ap0_0 cp0_0 p0.order_nums (p0.state == (3 : Int)) w o Lp0_0 LF) (hcp0_0 : (p0.order_nums).length ≤ cp0_0) (Lp0_1 : Nat) (hp0_1 : NOwn dT50 51 Ap0_1 cp0_1 p0.out w o Lp0_1 LF) (hcp0_1 : (p0.out).length ≤ cp0_1) (hd0 : ([LF, Lp0, Lp0_0, Lp0_1] : List Nat).Nodup) (r : T47) (H : seq_Parser_over K p0 = some r) :
    Calls Tryd.prog 82 #[.pointer (some ⟨bp0, 0, none⟩)] w (Ret fun v_ w' => ∃ o' : Nat → Nat, ∃ A0 : Option Addr, ∃ c0 : Nat, ∃ A1 : Option Addr, ∃ c1 : Nat, v_ = .tuple #[] ∧ St [Lp0, Lp0_0, Lp0_1] w o w' o' ∧ Ft (Bx bp0 48 [.int .i64 r.state, .bool r.order_private_, .bool r.order_wrong, .bool r.order_any, .bool r.order_some, .int .i64 r.order_n, .slice A0 (r.order_nums).length c0, .string r.text, .int .u8 r.runes_Lead, .int .i32 r.runes_Rune, .int .i64 r.runes_Need, .slice A1 (r.out).length c1]) w' o' Lp0 ∧ CO (encInt .i64) 3 A0 c0 (r.order_nums) (r.state == (3 : Int)) w' o' Lp0_0 LF ∧ (r.order_nums).length ≤ c0 ∧ NOwn dT50 51 A1 c1 r.out w' o' Lp0_1 LF ∧ (r.out).length ≤ c1) := by
  refine x_enter (vs := [.pointer (some ⟨bp0, 0, none⟩)]) Tryd.func82 rfl rfl rfl fun a hk => ?_
  obtain ⟨oi, hs0, h0, h1, hob, hoz, hoa⟩ := St.startM2 w o (m := 4) hd0 rfl
  have hs := hs0 [2, 3, 4]
  have f900000 := hp0_0.conv (fun _ h_ => h1 2 3 h_ rfl rfl) (fun _ h_ => h1 0 1 h_ rfl rfl)
  have f900001 := hp0_1.conv (fun _ h_ => h1 3 4 h_ rfl rfl) (fun _ h_ => h1 0 1 h_ rfl rfl)
  have f900019 := h1 1 2 hp0 rfl rfl
  clear h0 h1 hs0
  rw [seq_Parser_over] at H
  refine x_seq ?_
  refine wpIn_region_lit ?_
  refine x_run tab hk (k := 3) (lv := []) (ks := [0, 8]) (e' := [(0, .pointer (some ⟨bp0, 0, none⟩)), (8, .pointer (some ⟨bp0, 0, none⟩))]) rfl trivial fun a hk => ?_
  refine x_op hk rfl ?_
  refine op_store tab hk (t := 3) (v := .int .i64 0) (b := bp0) (k := 0) (cs' := [.int .i64 0, .bool p0.order_private_, .bool p0.order_wrong, .bool p0.order_any, .bool p0.order_some, .int .i64 p0.order_n, .slice Ap0_0 (p0.order_nums).length cp0_0, .string p0.text, .int .u8 p0.runes_Lead, .int .i32 p0.runes_Rune, .int .i64 p0.runes_Need, .slice Ap0_1 (p0.out).length cp0_1]) rfl rfl rfl rfl rfl rfl f900019 rfl rfl fun w1 o2 st3 f900019_ => ?_
  replace f900000 := f900000.st st3 (by decide)
  replace f900001 := f900001.st st3 (by decide)
  replace hs := hs.locQ st3 hob rfl
  replace f900019 := f900019_
  replace f900000 := f900000.weak
  refine wpListIn_nil ?_
  refine then_n ?_
  refine x_seq ?_
  refine wpIn_region_lit ?_
  refine x_op hk rfl ?_
  refine op_slice (o := o2) tab hk (vs := [.string (⟨#[48, 59]⟩ : ByteArray), .string (⟨#[50, 59]⟩ : ByteArray)]) (cs := [.string (⟨#[48, 59]⟩ : ByteArray), .string (⟨#[50, 59]⟩ : ByteArray)]) rfl rfl rfl rfl rfl rfl rfl rfl rfl 5 fun bx7 w4 o5 st6 f8 => ?_
  replace f900000 := f900000.st st6 (by decide)
  replace f900001 := f900001.st st6 (by decide)
  replace f900019 := f900019.st st6 (by decide)
  replace hs := hs.locQ st6 hob rfl
  have f9 : Ft (Own encStr 9 (.slice (some ⟨bx7, 0, none⟩) (([(⟨#[48, 59]⟩ : ByteArray), (⟨#[50, 59]⟩ : ByteArray)] : List ByteArray)).length 2) ([(⟨#[48, 59]⟩ : ByteArray), (⟨#[50, 59]⟩ : ByteArray)] : List ByteArray)) w4 o5 5 := f8.imp fun _ h_ => Own.of_box h_ rfl (by simp)
  have hk := hk.put 9 (.slice (some ⟨bx7, 0, none⟩) (([(⟨#[48, 59]⟩ : ByteArray), (⟨#[50, 59]⟩ : ByteArray)] : List ByteArray)).length 2) rfl
  refine x_run tab hk (k := 2) (lv := []) (ks := [0, 9, 10, 11]) (e' := [(0, .pointer (some ⟨bp0, 0, none⟩)), (9, .slice (some ⟨bx7, 0, none⟩) (([(⟨#[48, 59]⟩ : ByteArray), (⟨#[50, 59]⟩ : ByteArray)] : List ByteArray)).length 2), (10, .int .i64 ((([(⟨#[48, 59]⟩ : ByteArray), (⟨#[50, 59]⟩ : ByteArray)] : List ByteArray)).length : Int)), (11, .int .i64 0)]) rfl trivial fun a hk => ?_
  refine wpListIn_nil ?_
  refine then_n ?_
  refine wpIn_block ?_
  refine x_loop (fun j_ a_ w_ => ∃ o41 : Nat → Nat, ∃ x42 : Int, ∃ x43 : Bool, ∃ x44 : Bool, ∃ x45 : Bool, ∃ x46 : Bool, ∃ x47 : Int, ∃ A48 : Option Addr, ∃ c49 : Nat, ∃ l50 : List Int, ∃ x53 : ByteArray, ∃ x54 : Int, ∃ x55 : Int, ∃ x56 : Int, ∃ A57 : Option Addr, ∃ c58 : Nat, ∃ l59 : List T50, ∃ x62 : Int, Kn 30 a_ [(0, .pointer (some ⟨bp0, 0, none⟩)), (9, .slice (some ⟨bx7, 0, none⟩) (([(⟨#[48, 59]⟩ : ByteArray), (⟨#[50, 59]⟩ : ByteArray)] : List ByteArray)).length 2), (10, .int .i64 ((([(⟨#[48, 59]⟩ : ByteArray), (⟨#[50, 59]⟩ : ByteArray)] : List ByteArray)).length : Int)), (11, .int .i64 x62)] ∧ St [2, 3, 4] w oi w_ o41 ∧ CO (encInt .i64) 3 A48 c49 l50 (x42 == (3 : Int)) w_ o41 3 1 ∧ NOwn dT50 51 A57 c58 l59 w_ o41 4 1 ∧ Ft (Own encStr 9 (.slice (some ⟨bx7, 0, none⟩) (([(⟨#[48, 59]⟩ : ByteArray), (⟨#[50, 59]⟩ : ByteArray)] : List ByteArray)).length 2) ([(⟨#[48, 59]⟩ : ByteArray), (⟨#[50, 59]⟩ : ByteArray)] : List ByteArray)) w_ o41 7 ∧ Ft (Bx bp0 48 [.int .i64 x42, .bool x43, .bool x44, .bool x45, .bool x46, .int .i64 x47, .slice A48 (l50).length c49, .string x53, .int .u8 x54, .int .i32 x55, .int .i64 x56, .slice A57 (l59).length c58]) w_ o41 2 ∧ (l50).length ≤ c49 ∧ (l59).length ≤ c58 ∧ seq_Parser_over_l1 j_ x42 x43 x44 x45 x46 x47 l50 x53 x54 x55 x56 l59 x62 = some r) (k := K) ⟨(fun b_ => (fun l_ => if l_ = 5 then 7 else l_) (o5 b_)), 0, p0.order_private_, p0.order_wrong, p0.order_any, p0.order_some, p0.order_n, Ap0_0, cp0_0, p0.order_nums, p0.text, p0.runes_Lead, p0.runes_Rune, p0.runes_Need, Ap0_1, cp0_1, p0.out, 0, (by exact Kn.pick (ks := [0, 9, 10, 11]) hk rfl), (hs.relabM hob (fun l_ => if l_ = 5 then 7 else l_) (by decide)), (f900000.relab (fun l_ => if l_ = 5 then 7 else l_) rfl), (f900001.relab (fun l_ => if l_ = 5 then 7 else l_) rfl), (f9.relab (fun l_ => if l_ = 5 then 7 else l_) rfl), (f900019.relab (fun l_ => if l_ = 5 then 7 else l_) rfl), hcp0_0, hcp0_1, H⟩ (by rintro _ _ ⟨_, _, _, _, _, _, _, _, _, _, _, _, _, _, _, _, _, _, _, _, _, _, _, _, _, _, H_⟩; exact absurd (show (none : Option T47) = some r from H_) (by simp)) ?_
  rintro k92 a w91 ⟨o41, x42, x43, x44, x45, x46, x47, A48, c49, l50, x53, x54, x55, x56, A57, c58, l59, x62, hk, hs, f51, f60, f9, f900019, hc52, hc61, H⟩
  rw [seq_Parser_over_l1] at H
  obtain ⟨lp93, hlp94⟩ : ∃ lp_, lp_ = seq_Parser_over_l1 k92 := ⟨_, rfl⟩
  rw [← hlp94] at H
  refine x_seq ?_
  refine wpIn_region_lit ?_
  refine x_run tab hk (k := 1) (lv := []) (ks := [0, 9, 10, 11, 12]) (e' := [(0, .pointer (some ⟨bp0, 0, none⟩)), (9, .slice (some ⟨bx7, 0, none⟩) (([(⟨#[48, 59]⟩ : ByteArray), (⟨#[50, 59]⟩ : ByteArray)] : List ByteArray)).length 2), (10, .int .i64 ((([(⟨#[48, 59]⟩ : ByteArray), (⟨#[50, 59]⟩ : ByteArray)] : List ByteArray)).length : Int)), (11, .int .i64 x62), (12, .bool (decide (x62 < ((([(⟨#[48, 59]⟩ : ByteArray), (⟨#[50, 59]⟩ : ByteArray)] : List ByteArray)).length : Int))))]) rfl trivial fun a hk => ?_
  refine wpListIn_nil ?_
  refine then_n ?_
  refine x_seq ?_
  cases b95 : (decide (x62 < ((([(⟨#[48, 59]⟩ : ByteArray), (⟨#[50, 59]⟩ : ByteArray)] : List ByteArray)).length : Int)))
  · rw [b95] at hk H
    replace H := bifF H
    refine x_if hk (b := false) rfl ?_
    refine (show Code.wpIn _ _ _ _ _ _ _ from ?_)
    refine wpIn_exit ?_
    refine then_x ?_
    refine then_x ?_
    refine blk_x ?_
    obtain rfl := Option.some.inj H
    exact x_endG hk (rs := []) (vs := []) rfl trivial ⟨cl w oi o [2, 3, 4] (fun l_ => if l_ = 1 then LF else if l_ = 2 then Lp0 else if l_ = 3 then Lp0_0 else if l_ = 4 then Lp0_1 else 0) o41, A48, c49, A57, c58, rfl, hs.closeF (Lm := [Lp0, Lp0_0, Lp0_1]) (Sh := []) hoa rfl (fun l_ => if l_ = 1 then LF else if l_ = 2 then Lp0 else if l_ = 3 then Lp0_0 else if l_ = 4 then Lp0_1 else 0), hs.closeM_ft (o := o) (ρ := fun l_ => if l_ = 1 then LF else if l_ = 2 then Lp0 else if l_ = 3 then Lp0_0 else if l_ = 4 then Lp0_1 else 0) f900019 (lab_at hoa (i := 1) rfl) rfl, f51.conv (fun _ h_ => hs.closeM_ft (o := o) (ρ := fun l_ => if l_ = 1 then LF else if l_ = 2 then Lp0 else if l_ = 3 then Lp0_0 else if l_ = 4 then Lp0_1 else 0) h_ (lab_at hoa (i := 2) rfl) rfl) (fun _ h_ => hs.closeM_ft (o := o) (ρ := fun l_ => if l_ = 1 then LF else if l_ = 2 then Lp0 else if l_ = 3 then Lp0_0 else if l_ = 4 then Lp0_1 else 0) h_ (lab_at hoa (i := 0) rfl) rfl), hc52, f60.conv (fun _ h_ => hs.closeM_ft (o := o) (ρ := fun l_ => if l_ = 1 then LF else if l_ = 2 then Lp0 else if l_ = 3 then Lp0_0 else if l_ = 4 then Lp0_1 else 0) h_ (lab_at hoa (i := 3) rfl) rfl) (fun _ h_ => hs.closeM_ft (o := o) (ρ := fun l_ => if l_ = 1 then LF else if l_ = 2 then Lp0 else if l_ = 3 then Lp0_0 else if l_ = 4 then Lp0_1 else 0) h_ (lab_at hoa (i := 0) rfl) rfl), hc61⟩
  · rw [b95] at hk H
    replace H := bifT H
    refine x_if hk (b := true) rfl ?_
    refine (show Code.wpIn _ _ _ _ _ _ _ from ?_)
    refine wpIn_skip ?_
    refine then_n ?_
    refine x_seq ?_
    refine wpIn_block ?_
    refine x_seq ?_
    refine wpIn_region_lit ?_
    obtain ⟨q96, H⟩ := ifS H
    refine x_run tab hk (k := 3) (lv := [.string (rdD (⟨#[]⟩ : ByteArray) ([(⟨#[48, 59]⟩ : ByteArray), (⟨#[50, 59]⟩ : ByteArray)] : List ByteArray) x62)]) (ks := [0, 3, 9, 10, 11]) (e' := [(0, .pointer (some ⟨bp0, 0, none⟩)), (3, .string (rdD (⟨#[]⟩ : ByteArray) ([(⟨#[48, 59]⟩ : ByteArray), (⟨#[50, 59]⟩ : ByteArray)] : List ByteArray) x62)), (9, .slice (some ⟨bx7, 0, none⟩) (([(⟨#[48, 59]⟩ : ByteArray), (⟨#[50, 59]⟩ : ByteArray)] : List ByteArray)).length 2), (10, .int .i64 ((([(⟨#[48, 59]⟩ : ByteArray), (⟨#[50, 59]⟩ : ByteArray)] : List ByteArray)).length : Int)), (11, .int .i64 x62)]) rfl ⟨q96, (load1 tab rfl (RdC.at0 (E := encStr) (d := (⟨#[]⟩ : ByteArray)) (i := x62) (Own.rd f9.now) q96 rfl)), trivial⟩ fun a hk => ?_
    refine wpListIn_nil ?_
    refine then_n ?_
    refine x_seq ?_
    refine wpIn_region_lit ?_
    refine x_run tab hk (k := 5) (lv := [.string x53]) (ks := [0, 9, 10, 11, 19, 20]) (e' := [(0, .pointer (some ⟨bp0, 0, none⟩)), (9, .slice (some ⟨bx7, 0, none⟩) (([(⟨#[48, 59]⟩ : ByteArray), (⟨#[50, 59]⟩ : ByteArray)] : List ByteArray)).length 2), (10, .int .i64 ((([(⟨#[48, 59]⟩ : ByteArray), (⟨#[50, 59]⟩ : ByteArray)] : List ByteArray)).length : Int)), (11, .int .i64 x62), (19, .string x53), (20, .string (rdD (⟨#[]⟩ : ByteArray) ([(⟨#[48, 59]⟩ : ByteArray), (⟨#[50, 59]⟩ : ByteArray)] : List ByteArray) x62))]) rfl ⟨(load1 tab rfl ((Bx.cell f900019.now 7).trans rfl)), trivial⟩ fun a hk => ?_
    refine x_op hk rfl ?_
    obtain ⟨t100, hc101, H⟩ := bindS H
    refine op_call hk ent_110 (vs := [.string x53, .string (rdD (⟨#[]⟩ : ByteArray) ([(⟨#[48, 59]⟩ : ByteArray), (⟨#[50, 59]⟩ : ByteArray)] : List ByteArray) x62)]) rfl (strings_CutPrefix_calls x53 (rdD (⟨#[]⟩ : ByteArray) ([(⟨#[48, 59]⟩ : ByteArray), (⟨#[50, 59]⟩ : ByteArray)] : List ByteArray) x62) _ o41    _ hc101) ?_
    rintro _ w102 ⟨o103, rfl, st104⟩
    replace f51 := f51.st st104 (by decide)
    replace f60 := f60.st st104 (by decide)
    replace f9 := f9.st st104 (by decide)
    replace f900019 := f900019.st st104 (by decide)
    replace hs := hs.locQ st104 hob rfl
    have hk := hk.put 21 (.tuple #[.string t100.1, .bool t100.2]) rfl
    refine x_run tab hk (k := 5) (lv := []) (ks := [0, 4, 5, 9, 10, 11]) (e' := [(0, .pointer (some ⟨bp0, 0, none⟩)), (4, .string t100.1), (5, .bool t100.2), (9, .slice (some ⟨bx7, 0, none⟩) (([(⟨#[48, 59]⟩ : ByteArray), (⟨#[50, 59]⟩ : ByteArray)] : List ByteArray)).length 2), (10, .int .i64 ((([(⟨#[48, 59]⟩ : ByteArray), (⟨#[50, 59]⟩ : ByteArray)] : List ByteArray)).length : Int)), (11, .int .i64 x62)]) rfl trivial fun a hk => ?_
    refine wpListIn_nil ?_
    refine then_n ?_
    refine x_seq ?_
    refine wpIn_region_lit ?_
    refine x_run tab hk (k := 1) (lv := []) (ks := [0, 4, 9, 10, 11, 24]) (e' := [(0, .pointer (some ⟨bp0, 0, none⟩)), (4, .string t100.1), (9, .slice (some ⟨bx7, 0, none⟩) (([(⟨#[48, 59]⟩ : ByteArray), (⟨#[50, 59]⟩ : ByteArray)] : List ByteArray)).length 2), (10, .int .i64 ((([(⟨#[48, 59]⟩ : ByteArray), (⟨#[50, 59]⟩ : ByteArray)] : List ByteArray)).length : Int)), (11, .int .i64 x62), (24, .bool t100.2)]) rfl trivial fun a hk => ?_
    refine wpListIn_nil ?_
    refine then_n ?_
    cases b105 : t100.2
    · rw [b105] at hk H
      replace H := bifF H
      refine x_if hk (b := false) rfl ?_
      refine (show Code.wpIn _ _ _ _ _ _ _ from ?_)
      refine wpIn_skip ?_
      refine blk_n ?_
      refine then_n ?_
      refine wpIn_region_lit ?_
      refine x_run tab hk (k := 2) (lv := []) (ks := [0, 9, 10, 11]) (e' := [(0, .pointer (some ⟨bp0, 0, none⟩)), (9, .slice (some ⟨bx7, 0, none⟩) (([(⟨#[48, 59]⟩ : ByteArray), (⟨#[50, 59]⟩ : ByteArray)] : List ByteArray)).length 2), (10, .int .i64 ((([(⟨#[48, 59]⟩ : ByteArray), (⟨#[50, 59]⟩ : ByteArray)] : List ByteArray)).length : Int)), (11, .int .i64 (IntKind.wrap .i64 (x62 + 1)))]) rfl trivial fun a hk => ?_
      refine wpListIn_nil ?_
      refine then_n ?_
      exact ⟨k92, Nat.le_refl _, o103, x42, x43, x44, x45, x46, x47, A48, c49, l50, x53, x54, x55, x56, A57, c58, l59, (IntKind.wrap .i64 (x62 + 1)), (by exact Kn.pick (ks := [0, 9, 10, 11]) hk rfl), hs, f51, f60, f9, f900019, hc52, hc61, (hlp94 ▸ H)⟩
    · rw [b105] at hk H
      replace H := bifT H
      refine x_if hk (b := true) rfl ?_
      refine (show Code.wpIn _ _ _ _ _ _ _ from ?_)
      refine wpIn_region_lit ?_
      refine x_run tab hk (k := 3) (lv := []) (ks := [0, 9, 10, 11, 25, 27]) (e' := [(0, .pointer (some ⟨bp0, 0, none⟩)), (9, .slice (some ⟨bx7, 0, none⟩) (([(⟨#[48, 59]⟩ : ByteArray), (⟨#[50, 59]⟩ : ByteArray)] : List ByteArray)).length 2), (10, .int .i64 ((([(⟨#[48, 59]⟩ : ByteArray), (⟨#[50, 59]⟩ : ByteArray)] : List ByteArray)).length : Int)), (11, .int .i64 x62), (25, .pointer (some ⟨bp0, 0, none⟩)), (27, .agg #[.int .i64 5, .int .i32 0, .int .u8 0, .bool false, .slice none 0 0, .string t100.1])]) rfl trivial fun a hk => ?_
      refine x_op hk rfl ?_
      obtain ⟨t109, hc110, H⟩ := bindS H
      refine op_call hk ent_107 (vs := [.pointer (some ⟨bp0, 0, none⟩), .agg #[.int .i64 5, .int .i32 0, .int .u8 0, .bool false, .slice none 0 0, .string t100.1]]) rfl (seq_Parser_tell_calls bp0 A48 c49 A57 c58 (⟨x42, x43, x44, x45, x46, x47, l50, x53, x54, x55, x56, l59⟩ : T47) none 0 (⟨5, 0, 0, false, ([] : List Int), t100.1⟩ : T50) _ o103 1 2 f900019 3 f51 hc52 4 f60 hc61 (Ft.of_all (fun _ => RdC.nilr _ _ _) _ _ _) (Nat.le_refl _) (by decide)   _ hc110) ?_
      rintro _ w111 ⟨o112, A115, c116, A119, c120, rfl, st113, f114, f117, hc118, f121, hc122⟩
      replace f9 := f9.st st113 (by decide)
      replace hs := hs.locQ st113 hob rfl
      have hk := hk.put 28 (.tuple #[]) rfl
      refine wpListIn_nil ?_
      refine blk_n ?_
      refine then_n ?_
      refine wpIn_region_lit ?_
      refine x_run tab hk (k := 2) (lv := []) (ks := [0, 9, 10, 11]) (e' := [(0, .pointer (some ⟨bp0, 0, none⟩)), (9, .slice (some ⟨bx7, 0, none⟩) (([(⟨#[48, 59]⟩ : ByteArray), (⟨#[50, 59]⟩ : ByteArray)] : List ByteArray)).length 2), (10, .int .i64 ((([(⟨#[48, 59]⟩ : ByteArray), (⟨#[50, 59]⟩ : ByteArray)] : List ByteArray)).length : Int)), (11, .int .i64 (IntKind.wrap .i64 (x62 + 1)))]) rfl trivial fun a hk => ?_
      refine wpListIn_nil ?_
      refine then_n ?_
      exact ⟨k92, Nat.le_refl _, o112, t109.state, t109.order_private_, t109.order_wrong, t109.order_any, t109.order_some, t109.order_n, A115, c116, t109.order_nums, t109.text, t109.runes_Lead, t109.runes_Rune, t109.runes_Need, A119, c120, t109.out, (IntKind.wrap .i64 (x62 + 1)), (by exact Kn.pick (ks := [0, 9, 10, 11]) hk rfl), hs, f117, f121, f9, f114, hc118, hc122, (hlp94 ▸ H)⟩

/-! (*tidewrack/seq.Parser).onTitle -/
theorem seq_Parser_onTitle_calls (K : Nat) (bp0 : Nat) (Ap0_0 : Option Addr) (cp0_0 : Nat) (Ap0_1 : Option Addr) (cp0_1 : Nat) (p0 : T47) (p1 : Int) (w : World) (o : Nat → Nat) (LF : Nat) (Lp0 : Nat) (hp0 : Ft (Bx bp0 48 [.int .i64 p0.state, .bool p0.order_private_, .bool p0.order_wrong, .bool p0.order_any, .bool p0.order_some, .int .i64 p0.order_n, .slice Ap0_0 (p0.order_nums).length cp0_0, .string p0.text, .int .u8 p0.runes_Lead, .int .i32 p0.runes_Rune, .int .i64 p0.runes_Need, .slice Ap0_1 (p0.out).length cp0_1]) w o Lp0) (Lp0_0 : Nat) (hp0_0 : CO (encInt .i64) 3 Ap0_0 cp0_0 p0.order_nums (p0.state == (3 : Int)) w o Lp0_0 LF) (hcp0_0 : (p0.order_nums).length ≤ cp0_0) (Lp0_1 : Nat) (hp0_1 : NOwn dT50 51 Ap0_1 cp0_1 p0.out w o Lp0_1 LF) (hcp0_1 : (p0.out).length ≤ cp0_1) (hd0 : ([LF, Lp0, Lp0_0, Lp0_1] : List Nat).Nodup) (r : T47) (H : seq_Parser_onTitle K p0 p1 = some r) :
    Calls Tryd.prog 81 #[.pointer (some ⟨bp0, 0, none⟩), .int .u8 p1] w (Ret fun v_ w' => ∃ o' : Nat → Nat, ∃ A0 : Option Addr, ∃ c0 : Nat, ∃ A1 : Option Addr, ∃ c1 : Nat, v_ = .tuple #[] ∧ St [Lp0, Lp0_0, Lp0_1] w o w' o' ∧ Ft (Bx bp0 48 [.int .i64 r.state, .bool r.order_private_, .bool r.order_wrong, .bool r.order_any, .bool r.order_some, .int .i64 r.order_n, .slice A0 (r.order_nums).length c0, .string r.text, .int .u8 r.runes_Lead, .int .i32 r.runes_Rune, .int .i64 r.runes_Need, .slice A1 (r.out).length c1]) w' o' Lp0 ∧ CO (encInt .i64) 3 A0 c0 (r.order_nums) (r.state == (3 : Int)) w' o' Lp0_0 LF ∧ (r.order_nums).length ≤ c0 ∧ NOwn dT50 51 A1 c1 r.out w' o' Lp0_1 LF ∧ (r.out).length ≤ c1) := by
  refine x_enter (vs := [.pointer (some ⟨bp0, 0, none⟩), .int .u8 p1]) Tryd.func81 rfl rfl rfl fun a hk => ?_
  obtain ⟨oi, hs0, h0, h1, hob, hoz, hoa⟩ := St.startM2 w o (m := 4) hd0 rfl
  have hs := hs0 [2, 3, 4]
  have f900000 := hp0_0.conv (fun _ h_ => h1 2 3 h_ rfl rfl) (fun _ h_ => h1 0 1 h_ rfl rfl)
  have f900001 := hp0_1.conv (fun _ h_ => h1 3 4 h_ rfl rfl) (fun _ h_ => h1 0 1 h_ rfl rfl)
  have f900019 := h1 1 2 hp0 rfl rfl
  clear h0 h1 hs0
  rw [seq_Parser_onTitle] at H
  refine wpIn_block ?_
  refine x_seq ?_
  refine wpIn_region_lit ?_
  refine x_run tab hk (k := 3) (lv := []) (ks := [0, 1, 4]) (e' := [(0, .pointer (some ⟨bp0, 0, none⟩)), (1, .int .u8 p1), (4, .bool (p1 == (7 : Int)))]) rfl trivial fun a hk => ?_
  refine wpListIn_nil ?_
  refine then_n ?_
  cases b1 : (p1 == (7 : Int))
  · rw [b1] at hk H
    replace H := bifF H
    refine x_if hk (b := false) rfl ?_
    refine (show Code.wpIn _ _ _ _ _ _ _ from ?_)
    refine x_mid (fun a_ w_ => ∃ o9 : Nat → Nat, ∃ x10 : Bool, Kn 42 a_ [(0, .pointer (some ⟨bp0, 0, none⟩)), (1, .int .u8 p1), (9, .bool x10)] ∧ St [2, 3, 4] w oi w_ o9 ∧ CO (encInt .i64) 3 Ap0_0 cp0_0 p0.order_nums (p0.state == (3 : Int)) w_ o9 3 1 ∧ NOwn dT50 51 Ap0_1 cp0_1 p0.out w_ o9 4 1 ∧ Ft (Bx bp0 48 [.int .i64 p0.state, .bool p0.order_private_, .bool p0.order_wrong, .bool p0.order_any, .bool p0.order_some, .int .i64 p0.order_n, .slice Ap0_0 (p0.order_nums).length cp0_0, .string p0.text, .int .u8 p0.runes_Lead, .int .i32 p0.runes_Rune, .int .i64 p0.runes_Need, .slice Ap0_1 (p0.out).length cp0_1]) w_ o9 2 ∧ seq_Parser_onTitle_j1 p0 p1 x10 = some r) ?_ ?_
    rotate_left
    · rintro a w11 ⟨o9, x10, hk, hs, f900000, f900001, f900019, H⟩
      rw [seq_Parser_onTitle_j1] at H
      cases b12 : x10
      · rw [b12] at hk H
        replace H := bifF H
        refine x_if hk (b := false) rfl ?_
        refine (show Code.wpIn _ _ _ _ _ _ _ from ?_)
        refine x_seq ?_
        refine wpIn_region_lit ?_
        refine x_run tab hk (k := 3) (lv := []) (ks := [0, 1, 19]) (e' := [(0, .pointer (some ⟨bp0, 0, none⟩)), (1, .int .u8 p1), (19, .bool (p1 == (27 : Int)))]) rfl trivial fun a hk => ?_
        refine wpListIn_nil ?_
        refine then_n ?_
        cases b13 : (p1 == (27 : Int))
        · rw [b13] at hk H
          replace H := bifF H
          refine x_if hk (b := false) rfl ?_
          refine (show Code.wpIn _ _ _ _ _ _ _ from ?_)
          refine x_seq ?_
          refine wpIn_region_lit ?_
          refine x_run tab hk (k := 7) (lv := [.string p0.text]) (ks := [0, 1, 25]) (e' := [(0, .pointer (some ⟨bp0, 0, none⟩)), (1, .int .u8 p1), (25, .bool (decide (((p0.text).size : Int) < (200 : Int))))]) rfl ⟨(load1 tab rfl ((Bx.cell f900019.now 7).trans rfl)), trivial⟩ fun a hk => ?_
          refine wpListIn_nil ?_
          refine then_n ?_
          cases b14 : (decide (((p0.text).size : Int) < (200 : Int)))
          · rw [b14] at hk H
            replace H := bifF H
            refine x_if hk (b := false) rfl ?_
            refine (show Code.wpIn _ _ _ _ _ _ _ from ?_)
            refine wpIn_skip ?_
            refine blk_n ?_
            obtain rfl := Option.some.inj H
            exact x_endG hk (rs := []) (vs := []) rfl trivial ⟨cl w oi o [2, 3, 4] (fun l_ => if l_ = 1 then LF else if l_ = 2 then Lp0 else if l_ = 3 then Lp0_0 else if l_ = 4 then Lp0_1 else 0) o9, Ap0_0, cp0_0, Ap0_1, cp0_1, rfl, hs.closeF (Lm := [Lp0, Lp0_0, Lp0_1]) (Sh := []) hoa rfl (fun l_ => if l_ = 1 then LF else if l_ = 2 then Lp0 else if l_ = 3 then Lp0_0 else if l_ = 4 then Lp0_1 else 0), hs.closeM_ft (o := o) (ρ := fun l_ => if l_ = 1 then LF else if l_ = 2 then Lp0 else if l_ = 3 then Lp0_0 else if l_ = 4 then Lp0_1 else 0) f900019 (lab_at hoa (i := 1) rfl) rfl, f900000.conv (fun _ h_ => hs.closeM_ft (o := o) (ρ := fun l_ => if l_ = 1 then LF else if l_ = 2 then Lp0 else if l_ = 3 then Lp0_0 else if l_ = 4 then Lp0_1 else 0) h_ (lab_at hoa (i := 2) rfl) rfl) (fun _ h_ => hs.closeM_ft (o := o) (ρ := fun l_ => if l_ = 1 then LF else if l_ = 2 then Lp0 else if l_ = 3 then Lp0_0 else if l_ = 4 then Lp0_1 else 0) h_ (lab_at hoa (i := 0) rfl) rfl), hcp0_0, f900001.conv (fun _ h_ => hs.closeM_ft (o := o) (ρ := fun l_ => if l_ = 1 then LF else if l_ = 2 then Lp0 else if l_ = 3 then Lp0_0 else if l_ = 4 then Lp0_1 else 0) h_ (lab_at hoa (i := 3) rfl) rfl) (fun _ h_ => hs.closeM_ft (o := o) (ρ := fun l_ => if l_ = 1 then LF else if l_ = 2 then Lp0 else if l_ = 3 then Lp0_0 else if l_ = 4 then Lp0_1 else 0) h_ (lab_at hoa (i := 0) rfl) rfl), hcp0_1⟩
          · rw [b14] at hk H
            replace H := bifT H
            refine x_if hk (b := true) rfl ?_
            refine (show Code.wpIn _ _ _ _ _ _ _ from ?_)
            refine x_cut (fun a_ w_ => ∃ o136 : Nat → Nat, Kn 42 a_ [] ∧ St [2, 3, 4] w oi w_ o136 ∧ CO (encInt .i64) 3 Ap0_0 cp0_0 p0.order_nums (p0.state == (3 : Int)) w_ o136 3 1 ∧ NOwn dT50 51 Ap0_1 cp0_1 p0.out w_ o136 4 1 ∧ Ft (Bx bp0 48 [.int .i64 p0.state, .bool p0.order_private_, .bool p0.order_wrong, .bool p0.order_any, .bool p0.order_some, .int .i64 p0.order_n, .slice Ap0_0 (p0.order_nums).length cp0_0, .string (p0.text ++ (strOfNums ([p1] : List Int))), .int .u8 p0.runes_Lead, .int .i32 p0.runes_Rune, .int .i64 p0.runes_Need, .slice Ap0_1 (p0.out).length cp0_1]) w_ o136 2 ∧ seq_Parser_onTitle_j2 p0 p1 = some r) ?_ ?_
            rotate_left
            · rintro a w137 ⟨o136, hk, hs, f900000, f900001, f900019, H⟩
              rw [seq_Parser_onTitle_j2] at H
              refine blk_n ?_
              obtain rfl := Option.some.inj H
              exact x_endG hk (rs := []) (vs := []) rfl trivial ⟨cl w oi o [2, 3, 4] (fun l_ => if l_ = 1 then LF else if l_ = 2 then Lp0 else if l_ = 3 then Lp0_0 else if l_ = 4 then Lp0_1 else 0) o136, Ap0_0, cp0_0, Ap0_1, cp0_1, rfl, hs.closeF (Lm := [Lp0, Lp0_0, Lp0_1]) (Sh := []) hoa rfl (fun l_ => if l_ = 1 then LF else if l_ = 2 then Lp0 else if l_ = 3 then Lp0_0 else if l_ = 4 then Lp0_1 else 0), hs.closeM_ft (o := o) (ρ := fun l_ => if l_ = 1 then LF else if l_ = 2 then Lp0 else if l_ = 3 then Lp0_0 else if l_ = 4 then Lp0_1 else 0) f900019 (lab_at hoa (i := 1) rfl) rfl, f900000.conv (fun _ h_ => hs.closeM_ft (o := o) (ρ := fun l_ => if l_ = 1 then LF else if l_ = 2 then Lp0 else if l_ = 3 then Lp0_0 else if l_ = 4 then Lp0_1 else 0) h_ (lab_at hoa (i := 2) rfl) rfl) (fun _ h_ => hs.closeM_ft (o := o) (ρ := fun l_ => if l_ = 1 then LF else if l_ = 2 then Lp0 else if l_ = 3 then Lp0_0 else if l_ = 4 then Lp0_1 else 0) h_ (lab_at hoa (i := 0) rfl) rfl), hcp0_0, f900001.conv (fun _ h_ => hs.closeM_ft (o := o) (ρ := fun l_ => if l_ = 1 then LF else if l_ = 2 then Lp0 else if l_ = 3 then Lp0_0 else if l_ = 4 then Lp0_1 else 0) h_ (lab_at hoa (i := 3) rfl) rfl) (fun _ h_ => hs.closeM_ft (o := o) (ρ := fun l_ => if l_ = 1 then LF else if l_ = 2 then Lp0 else if l_ = 3 then Lp0_0 else if l_ = 4 then Lp0_1 else 0) h_ (lab_at hoa (i := 0) rfl) rfl), hcp0_1⟩
            obtain ⟨q154, H⟩ := ifS H
            refine xd_begin (o := o9) (fun W_ => True) mixed rfl rfl fun w179 st180 => ?_
            replace f900000 := f900000.st st180 (by decide)
            replace f900001 := f900001.st st180 (by decide)
            replace f900019 := f900019.st st180 (by decide)
            replace hs := hs.locQ st180 hob rfl
            refine xd_abs fun G hG => ?_
            have N186 : ∀ (a_ : Act) (w_ : World), (∃ o184 : Nat → Nat, Kn 42 a_ [(32, .pointer (some ⟨bp0, 0, none⟩)), (35, .string p0.text), (36, .int .u8 p1)] ∧ St [2, 3, 4] w oi w_ o184 ∧ CO (encInt .i64) 3 Ap0_0 cp0_0 p0.order_nums (p0.state == (3 : Int)) w_ o184 3 1 ∧ NOwn dT50 51 Ap0_1 cp0_1 p0.out w_ o184 4 1 ∧ Ft (Bx bp0 48 [.int .i64 p0.state, .bool p0.order_private_, .bool p0.order_wrong, .bool p0.order_any, .bool p0.order_some, .int .i64 p0.order_n, .slice Ap0_0 (p0.order_nums).length cp0_0, .string p0.text, .int .u8 p0.runes_Lead, .int .i32 p0.runes_Rune, .int .i64 p0.runes_Need, .slice Ap0_1 (p0.out).length cp0_1]) w_ o184 2) → G 6 #[true, true, true, true, true, false, false, false, false, false, false] a_ w_ := by
              rintro a w185 ⟨o184, hk, hs, f900000, f900001, f900019⟩
              refine xd_of hG ?_
              refine xd_op hk (i := 5) (by kernel_rfl) rfl rfl ?_
              refine op_slice (o := o184) tab hk (vs := [.int .u8 p1]) (cs := [.int .u8 p1]) rfl rfl rfl rfl rfl rfl rfl rfl rfl 18 fun bx190 w187 o188 st189 f191 => ?_
              replace f900000 := f900000.st st189 (by decide)
              replace f900001 := f900001.st st189 (by decide)
              replace f900019 := f900019.st st189 (by decide)
              replace hs := hs.locQ st189 hob rfl
              have f192 : Ft (Own (encInt .u8) 5 (.slice (some ⟨bx190, 0, none⟩) (([p1] : List Int)).length 1) ([p1] : List Int)) w187 o188 18 := f191.imp fun _ h_ => Own.of_box h_ rfl (by simp)
              have hk := hk.put 37 (.slice (some ⟨bx190, 0, none⟩) (([p1] : List Int)).length 1) rfl
              refine ⟨.inr trivial, ?_⟩
              refine xd_op hk (i := 6) (by kernel_rfl) rfl rfl ?_
              refine op_quiet tab hk (lv := [.string (strOfNums ([p1] : List Int))]) (v := .string (strOfNums ([p1] : List Int))) rfl ⟨(ask_str tab rfl rfl rfl rfl (Own.rd f192.now) (Own.plain f192.now _ _ _ rfl)), trivial⟩ ?_
              have hk := hk.put 38 (.string (strOfNums ([p1] : List Int))) rfl
              refine ⟨.inr trivial, ?_⟩
              refine xd_take tab hk (k := 1) (is := [7, 8, 9]) (ls' := #[true, true, true, true, true, true, true, true, true, true, false]) (lv := []) (ks := [39, 41]) (e' := [(39, .string (p0.text ++ (strOfNums ([p1] : List Int)))), (41, .pointer (some ((⟨bp0, 0, none⟩ : Addr).add 7)))]) (by kernel_rfl) rfl rfl (by kernel_rfl) (np_then (np_blk np_body)) trivial (fun W_ hS => ⟨q154, trivial⟩) fun a hk => ?_
              refine xd_op hk (i := 10) (by kernel_rfl) rfl rfl ?_
              refine op_store tab hk (t := 9) (v := .string (p0.text ++ (strOfNums ([p1] : List Int)))) (b := bp0) (k := 7) (cs' := [.int .i64 p0.state, .bool p0.order_private_, .bool p0.order_wrong, .bool p0.order_any, .bool p0.order_some, .int .i64 p0.order_n, .slice Ap0_0 (p0.order_nums).length cp0_0, .string (p0.text ++ (strOfNums ([p1] : List Int))), .int .u8 p0.runes_Lead, .int .i32 p0.runes_Rune, .int .i64 p0.runes_Need, .slice Ap0_1 (p0.out).length cp0_1]) rfl rfl rfl rfl rfl rfl f900019 rfl rfl fun w193 o194 st195 f900019_ => ?_
              replace f192 := f192.st st195 (by decide)
              replace f900000 := f900000.st st195 (by decide)
              replace f900001 := f900001.st st195 (by decide)
              replace hs := hs.locQ st195 hob rfl
              replace f900019 := f900019_
              refine ⟨.inr trivial, ?_⟩
              refine xd_done (by kernel_rfl) ?_
              refine then_n ?_
              exact ⟨o194, (by exact Kn.pick (ks := []) hk rfl), hs, f900000, f900001, f900019, H⟩
            have N233 : ∀ (a_ : Act) (w_ : World), (∃ o227 : Nat → Nat, ∃ A228 : Option Addr, ∃ c229 : Nat, Kn 42 a_ [(32, .pointer (some ⟨bp0, 0, none⟩)), (35, .string p0.text), (37, .slice A228 (([p1] : List Int)).length c229)] ∧ St [2, 3, 4] w oi w_ o227 ∧ Ft (Own (encInt .u8) 5 (.slice A228 (([p1] : List Int)).length c229) ([p1] : List Int)) w_ o227 21 ∧ CO (encInt .i64) 3 Ap0_0 cp0_0 p0.order_nums (p0.state == (3 : Int)) w_ o227 3 1 ∧ NOwn dT50 51 Ap0_1 cp0_1 p0.out w_ o227 4 1 ∧ Ft (Bx bp0 48 [.int .i64 p0.state, .bool p0.order_private_, .bool p0.order_wrong, .bool p0.order_any, .bool p0.order_some, .int .i64 p0.order_n, .slice Ap0_0 (p0.order_nums).length cp0_0, .string p0.text, .int .u8 p0.runes_Lead, .int .i32 p0.runes_Rune, .int .i64 p0.runes_Need, .slice Ap0_1 (p0.out).length cp0_1]) w_ o227 2 ∧ (([p1] : List Int)).length ≤ c229) → G 5 #[true, true, true, true, true, true, false, false, false, false, false] a_ w_ := by
              rintro a w232 ⟨o227, A228, c229, hk, hs, f230, f900000, f900001, f900019, hc231⟩
              refine xd_of hG ?_
              refine xd_op hk (i := 6) (by kernel_rfl) rfl rfl ?_
              refine op_quiet tab hk (lv := [.string (strOfNums ([p1] : List Int))]) (v := .string (strOfNums ([p1] : List Int))) rfl ⟨(ask_str tab rfl rfl rfl rfl (Own.rd f230.now) (Own.plain f230.now _ _ _ rfl)), trivial⟩ ?_
              have hk := hk.put 38 (.string (strOfNums ([p1] : List Int))) rfl
              refine ⟨.inr trivial, ?_⟩
              refine xd_take tab hk (k := 1) (is := [7, 8, 9]) (ls' := #[true, true, true, true, true, true, true, true, true, true, false]) (lv := []) (ks := [39, 41]) (e' := [(39, .string (p0.text ++ (strOfNums ([p1] : List Int)))), (41, .pointer (some ((⟨bp0, 0, none⟩ : Addr).add 7)))]) (by kernel_rfl) rfl rfl (by kernel_rfl) (np_then (np_blk np_body)) trivial (fun W_ hS => ⟨q154, trivial⟩) fun a hk => ?_
              refine xd_op hk (i := 10) (by kernel_rfl) rfl rfl ?_
              refine op_store tab hk (t := 9) (v := .string (p0.text ++ (strOfNums ([p1] : List Int)))) (b := bp0) (k := 7) (cs' := [.int .i64 p0.state, .bool p0.order_private_, .bool p0.order_wrong, .bool p0.order_any, .bool p0.order_some, .int .i64 p0.order_n, .slice Ap0_0 (p0.order_nums).length cp0_0, .string (p0.text ++ (strOfNums ([p1] : List Int))), .int .u8 p0.runes_Lead, .int .i32 p0.runes_Rune, .int .i64 p0.runes_Need, .slice Ap0_1 (p0.out).length cp0_1]) rfl rfl rfl rfl rfl rfl f900019 rfl rfl fun w234 o235 st236 f900019_ => ?_
              replace f230 := f230.st st236 (by decide)
              replace f900000 := f900000.st st236 (by decide)
              replace f900001 := f900001.st st236 (by decide)
              replace hs := hs.locQ st236 hob rfl
              replace f900019 := f900019_
              refine ⟨.inr trivial, ?_⟩
              refine xd_done (by kernel_rfl) ?_
              refine then_n ?_
              exact ⟨o235, (by exact Kn.pick (ks := []) hk rfl), hs, f900000, f900001, f900019, H⟩
            have N242 : ∀ (a_ : Act) (w_ : World), (∃ o240 : Nat → Nat, Kn 42 a_ [(32, .pointer (some ⟨bp0, 0, none⟩)), (34, .pointer (some ((⟨bp0, 0, none⟩ : Addr).add 7))), (38, .string (strOfNums ([p1] : List Int)))] ∧ St [2, 3, 4] w oi w_ o240 ∧ CO (encInt .i64) 3 Ap0_0 cp0_0 p0.order_nums (p0.state == (3 : Int)) w_ o240 3 1 ∧ NOwn dT50 51 Ap0_1 cp0_1 p0.out w_ o240 4 1 ∧ Ft (Bx bp0 48 [.int .i64 p0.state, .bool p0.order_private_, .bool p0.order_wrong, .bool p0.order_any, .bool p0.order_some, .int .i64 p0.order_n, .slice Ap0_0 (p0.order_nums).length cp0_0, .string p0.text, .int .u8 p0.runes_Lead, .int .i32 p0.runes_Rune, .int .i64 p0.runes_Need, .slice Ap0_1 (p0.out).length cp0_1]) w_ o240 2) → G 5 #[true, true, true, false, true, true, true, false, false, false, false] a_ w_ := by
              rintro a w241 ⟨o240, hk, hs, f900000, f900001, f900019⟩
              refine xd_of hG ?_
              refine xd_op hk (i := 3) (by kernel_rfl) rfl rfl ?_
              refine op_quiet tab hk (lv := [.string p0.text]) (v := .string p0.text) rfl ⟨(load1 tab rfl ((Bx.cell f900019.now 7).trans rfl)), trivial⟩ ?_
              have hk := hk.put 35 (.string p0.text) rfl
              refine ⟨.inr trivial, ?_⟩
              refine xd_take tab hk (k := 1) (is := [7, 8, 9]) (ls' := #[true, true, true, true, true, true, true, true, true, true, false]) (lv := []) (ks := [39, 41]) (e' := [(39, .string (p0.text ++ (strOfNums ([p1] : List Int)))), (41, .pointer (some ((⟨bp0, 0, none⟩ : Addr).add 7)))]) (by kernel_rfl) rfl rfl (by kernel_rfl) (np_then (np_blk np_body)) trivial (fun W_ hS => ⟨q154, trivial⟩) fun a hk => ?_
              refine xd_op hk (i := 10) (by kernel_rfl) rfl rfl ?_
              refine op_store tab hk (t := 9) (v := .string (p0.text ++ (strOfNums ([p1] : List Int)))) (b := bp0) (k := 7) (cs' := [.int .i64 p0.state, .bool p0.order_private_, .bool p0.order_wrong, .bool p0.order_any, .bool p0.order_some, .int .i64 p0.order_n, .slice Ap0_0 (p0.order_nums).length cp0_0, .string (p0.text ++ (strOfNums ([p1] : List Int))), .int .u8 p0.runes_Lead, .int .i32 p0.runes_Rune, .int .i64 p0.runes_Need, .slice Ap0_1 (p0.out).length cp0_1]) rfl rfl rfl rfl rfl rfl f900019 rfl rfl fun w243 o244 st245 f900019_ => ?_
              replace f900000 := f900000.st st245 (by decide)
              replace f900001 := f900001.st st245 (by decide)
              replace hs := hs.locQ st245 hob rfl
              replace f900019 := f900019_
              refine ⟨.inr trivial, ?_⟩
              refine xd_done (by kernel_rfl) ?_
              refine then_n ?_
              exact ⟨o244, (by exact Kn.pick (ks := []) hk rfl), hs, f900000, f900001, f900019, H⟩
            have N217 : ∀ (a_ : Act) (w_ : World), (∃ o211 : Nat → Nat, ∃ A212 : Option Addr, ∃ c213 : Nat, Kn 42 a_ [(32, .pointer (some ⟨bp0, 0, none⟩)), (34, .pointer (some ((⟨bp0, 0, none⟩ : Addr).add 7))), (37, .slice A212 (([p1] : List Int)).length c213)] ∧ St [2, 3, 4] w oi w_ o211 ∧ Ft (Own (encInt .u8) 5 (.slice A212 (([p1] : List Int)).length c213) ([p1] : List Int)) w_ o211 20 ∧ CO (encInt .i64) 3 Ap0_0 cp0_0 p0.order_nums (p0.state == (3 : Int)) w_ o211 3 1 ∧ NOwn dT50 51 Ap0_1 cp0_1 p0.out w_ o211 4 1 ∧ Ft (Bx bp0 48 [.int .i64 p0.state, .bool p0.order_private_, .bool p0.order_wrong, .bool p0.order_any, .bool p0.order_some, .int .i64 p0.order_n, .slice Ap0_0 (p0.order_nums).length cp0_0, .string p0.text, .int .u8 p0.runes_Lead, .int .i32 p0.runes_Rune, .int .i64 p0.runes_Need, .slice Ap0_1 (p0.out).length cp0_1]) w_ o211 2 ∧ (([p1] : List Int)).length ≤ c213) → G 6 #[true, true, true, false, true, true, false, false, false, false, false] a_ w_ := by
              rintro a w216 ⟨o211, A212, c213, hk, hs, f214, f900000, f900001, f900019, hc215⟩
              refine xd_of hG ?_
              refine xd_each [3, 6] (by kernel_rfl) rfl ⟨?_, ?_, trivial⟩
              · refine xd_one hk rfl rfl ?_
                refine op_quiet tab hk (lv := [.string p0.text]) (v := .string p0.text) rfl ⟨(load1 tab rfl ((Bx.cell f900019.now 7).trans rfl)), trivial⟩ ?_
                have hk := hk.put 35 (.string p0.text) rfl
                refine ⟨.inr trivial, ?_⟩
                exact xd_to hG rfl (N233 _ _ ⟨(fun b_ => (fun l_ => if l_ = 20 then 21 else l_) (o211 b_)), A212, c213, (by exact Kn.pick (ks := [32, 35, 37]) hk rfl), (hs.relabM hob (fun l_ => if l_ = 20 then 21 else l_) (by decide)), (f214.relab (fun l_ => if l_ = 20 then 21 else l_) rfl), (f900000.relab (fun l_ => if l_ = 20 then 21 else l_) rfl), (f900001.relab (fun l_ => if l_ = 20 then 21 else l_) rfl), (f900019.relab (fun l_ => if l_ = 20 then 21 else l_) rfl), hc215⟩)
              · refine xd_one hk rfl rfl ?_
                refine op_quiet tab hk (lv := [.string (strOfNums ([p1] : List Int))]) (v := .string (strOfNums ([p1] : List Int))) rfl ⟨(ask_str tab rfl rfl rfl rfl (Own.rd f214.now) (Own.plain f214.now _ _ _ rfl)), trivial⟩ ?_
                have hk := hk.put 38 (.string (strOfNums ([p1] : List Int))) rfl
                refine ⟨.inr trivial, ?_⟩
                exact xd_to hG rfl (N242 _ _ ⟨o211, (by exact Kn.pick (ks := [32, 34, 38]) hk rfl), hs, f900000, f900001, f900019⟩)
            refine xd_of hG ?_
            refine xd_take tab hk (k := 7) (is := [0, 1, 2, 4]) (ls' := #[true, true, true, false, true, false, false, false, false, false, false]) (lv := []) (ks := [32, 34, 36]) (e' := [(32, .pointer (some ⟨bp0, 0, none⟩)), (34, .pointer (some ((⟨bp0, 0, none⟩ : Addr).add 7))), (36, .int .u8 p1)]) (by kernel_rfl) rfl rfl (by kernel_rfl) (np_then (np_blk np_body)) trivial (fun W_ hS => trivial) fun a hk => ?_
            refine xd_each [3, 5] (by kernel_rfl) rfl ⟨?_, ?_, trivial⟩
            · refine xd_one hk rfl rfl ?_
              refine op_quiet tab hk (lv := [.string p0.text]) (v := .string p0.text) rfl ⟨(load1 tab rfl ((Bx.cell f900019.now 7).trans rfl)), trivial⟩ ?_
              have hk := hk.put 35 (.string p0.text) rfl
              refine ⟨.inr trivial, ?_⟩
              exact xd_to hG rfl (N186 _ _ ⟨o9, (by exact Kn.pick (ks := [32, 35, 36]) hk rfl), hs, f900000, f900001, f900019⟩)
            · refine xd_one hk rfl rfl ?_
              refine op_slice (o := o9) tab hk (vs := [.int .u8 p1]) (cs := [.int .u8 p1]) rfl rfl rfl rfl rfl rfl rfl rfl rfl 19 fun bx199 w196 o197 st198 f200 => ?_
              replace f900000 := f900000.st st198 (by decide)
              replace f900001 := f900001.st st198 (by decide)
              replace f900019 := f900019.st st198 (by decide)
              replace hs := hs.locQ st198 hob rfl
              have f201 : Ft (Own (encInt .u8) 5 (.slice (some ⟨bx199, 0, none⟩) (([p1] : List Int)).length 1) ([p1] : List Int)) w196 o197 19 := f200.imp fun _ h_ => Own.of_box h_ rfl (by simp)
              have hk := hk.put 37 (.slice (some ⟨bx199, 0, none⟩) (([p1] : List Int)).length 1) rfl
              refine ⟨.inr trivial, ?_⟩
              exact xd_to hG rfl (N217 _ _ ⟨(fun b_ => (fun l_ => if l_ = 19 then 20 else l_) (o197 b_)), (some ⟨bx199, 0, none⟩), 1, (by exact Kn.pick (ks := [32, 34, 37]) hk rfl), (hs.relabM hob (fun l_ => if l_ = 19 then 20 else l_) (by decide)), (f201.relab (fun l_ => if l_ = 19 then 20 else l_) rfl), (f900000.relab (fun l_ => if l_ = 19 then 20 else l_) rfl), (f900001.relab (fun l_ => if l_ = 19 then 20 else l_) rfl), (f900019.relab (fun l_ => if l_ = 19 then 20 else l_) rfl), (Nat.le_refl _)⟩)
        · rw [b13] at hk H
          replace H := bifT H
          refine x_if hk (b := true) rfl ?_
          refine (show Code.wpIn _ _ _ _ _ _ _ from ?_)
          refine wpIn_region_lit ?_
          refine x_run tab hk (k := 3) (lv := []) (ks := [24]) (e' := [(24, .pointer (some ⟨bp0, 0, none⟩))]) rfl trivial fun a hk => ?_
          refine x_op hk rfl ?_
          refine op_store tab hk (t := 3) (v := .int .i64 5) (b := bp0) (k := 0) (cs' := [.int .i64 5, .bool p0.order_private_, .bool p0.order_wrong, .bool p0.order_any, .bool p0.order_some, .int .i64 p0.order_n, .slice Ap0_0 (p0.order_nums).length cp0_0, .string p0.text, .int .u8 p0.runes_Lead, .int .i32 p0.runes_Rune, .int .i64 p0.runes_Need, .slice Ap0_1 (p0.out).length cp0_1]) rfl rfl rfl rfl rfl rfl f900019 rfl rfl fun w246 o247 st248 f900019_ => ?_
          replace f900000 := f900000.st st248 (by decide)
          replace f900001 := f900001.st st248 (by decide)
          replace hs := hs.locQ st248 hob rfl
          replace f900019 := f900019_
          replace f900000 := f900000.weak
          refine wpListIn_nil ?_
          refine blk_n ?_
          obtain rfl := Option.some.inj H
          exact x_endG hk (rs := []) (vs := []) rfl trivial ⟨cl w oi o [2, 3, 4] (fun l_ => if l_ = 1 then LF else if l_ = 2 then Lp0 else if l_ = 3 then Lp0_0 else if l_ = 4 then Lp0_1 else 0) o247, Ap0_0, cp0_0, Ap0_1, cp0_1, rfl, hs.closeF (Lm := [Lp0, Lp0_0, Lp0_1]) (Sh := []) hoa rfl (fun l_ => if l_ = 1 then LF else if l_ = 2 then Lp0 else if l_ = 3 then Lp0_0 else if l_ = 4 then Lp0_1 else 0), hs.closeM_ft (o := o) (ρ := fun l_ => if l_ = 1 then LF else if l_ = 2 then Lp0 else if l_ = 3 then Lp0_0 else if l_ = 4 then Lp0_1 else 0) f900019 (lab_at hoa (i := 1) rfl) rfl, f900000.conv (fun _ h_ => hs.closeM_ft (o := o) (ρ := fun l_ => if l_ = 1 then LF else if l_ = 2 then Lp0 else if l_ = 3 then Lp0_0 else if l_ = 4 then Lp0_1 else 0) h_ (lab_at hoa (i := 2) rfl) rfl) (fun _ h_ => hs.closeM_ft (o := o) (ρ := fun l_ => if l_ = 1 then LF else if l_ = 2 then Lp0 else if l_ = 3 then Lp0_0 else if l_ = 4 then Lp0_1 else 0) h_ (lab_at hoa (i := 0) rfl) rfl), hcp0_0, f900001.conv (fun _ h_ => hs.closeM_ft (o := o) (ρ := fun l_ => if l_ = 1 then LF else if l_ = 2 then Lp0 else if l_ = 3 then Lp0_0 else if l_ = 4 then Lp0_1 else 0) h_ (lab_at hoa (i := 3) rfl) rfl) (fun _ h_ => hs.closeM_ft (o := o) (ρ := fun l_ => if l_ = 1 then LF else if l_ = 2 then Lp0 else if l_ = 3 then Lp0_0 else if l_ = 4 then Lp0_1 else 0) h_ (lab_at hoa (i := 0) rfl) rfl), hcp0_1⟩
      · rw [b12] at hk H
        replace H := bifT H
        refine x_if hk (b := true) rfl ?_
        refine (show Code.wpIn _ _ _ _ _ _ _ from ?_)
        refine wpIn_region_lit ?_
        refine x_run tab hk (k := 3) (lv := []) (ks := [18]) (e' := [(18, .pointer (some ⟨bp0, 0, none⟩))]) rfl trivial fun a hk => ?_
        refine x_op hk rfl ?_
        refine op_store tab hk (t := 3) (v := .int .i64 0) (b := bp0) (k := 0) (cs' := [.int .i64 0, .bool p0.order_private_, .bool p0.order_wrong, .bool p0.order_any, .bool p0.order_some, .int .i64 p0.order_n, .slice Ap0_0 (p0.order_nums).length cp0_0, .string p0.text, .int .u8 p0.runes_Lead, .int .i32 p0.runes_Rune, .int .i64 p0.runes_Need, .slice Ap0_1 (p0.out).length cp0_1]) rfl rfl rfl rfl rfl rfl f900019 rfl rfl fun w249 o250 st251 f900019_ => ?_
        replace f900000 := f900000.st st251 (by decide)
        replace f900001 := f900001.st st251 (by decide)
        replace hs := hs.locQ st251 hob rfl
        replace f900019 := f900019_
        replace f900000 := f900000.weak
        refine wpListIn_nil ?_
        refine blk_n ?_
        obtain rfl := Option.some.inj H
        exact x_endG hk (rs := []) (vs := []) rfl trivial ⟨cl w oi o [2, 3, 4] (fun l_ => if l_ = 1 then LF else if l_ = 2 then Lp0 else if l_ = 3 then Lp0_0 else if l_ = 4 then Lp0_1 else 0) o250, Ap0_0, cp0_0, Ap0_1, cp0_1, rfl, hs.closeF (Lm := [Lp0, Lp0_0, Lp0_1]) (Sh := []) hoa rfl (fun l_ => if l_ = 1 then LF else if l_ = 2 then Lp0 else if l_ = 3 then Lp0_0 else if l_ = 4 then Lp0_1 else 0), hs.closeM_ft (o := o) (ρ := fun l_ => if l_ = 1 then LF else if l_ = 2 then Lp0 else if l_ = 3 then Lp0_0 else if l_ = 4 then Lp0_1 else 0) f900019 (lab_at hoa (i := 1) rfl) rfl, f900000.conv (fun _ h_ => hs.closeM_ft (o := o) (ρ := fun l_ => if l_ = 1 then LF else if l_ = 2 then Lp0 else if l_ = 3 then Lp0_0 else if l_ = 4 then Lp0_1 else 0) h_ (lab_at hoa (i := 2) rfl) rfl) (fun _ h_ => hs.closeM_ft (o := o) (ρ := fun l_ => if l_ = 1 then LF else if l_ = 2 then Lp0 else if l_ = 3 then Lp0_0 else if l_ = 4 then Lp0_1 else 0) h_ (lab_at hoa (i := 0) rfl) rfl), hcp0_0, f900001.conv (fun _ h_ => hs.closeM_ft (o := o) (ρ := fun l_ => if l_ = 1 then LF else if l_ = 2 then Lp0 else if l_ = 3 then Lp0_0 else if l_ = 4 then Lp0_1 else 0) h_ (lab_at hoa (i := 3) rfl) rfl) (fun _ h_ => hs.closeM_ft (o := o) (ρ := fun l_ => if l_ = 1 then LF else if l_ = 2 then Lp0 else if l_ = 3 then Lp0_0 else if l_ = 4 then Lp0_1 else 0) h_ (lab_at hoa (i := 0) rfl) rfl), hcp0_1⟩
    refine wpIn_region_lit ?_
    refine x_run tab hk (k := 3) (lv := []) (ks := [0, 1, 12]) (e' := [(0, .pointer (some ⟨bp0, 0, none⟩)), (1, .int .u8 p1), (12, .bool (p1 == (24 : Int)))]) rfl trivial fun a hk => ?_
    cases b252 : (p1 == (24 : Int))
    · rw [b252] at hk H
      replace H := bifF H
      refine x_run tab hk (k := 4) (lv := []) (ks := [0, 1, 9]) (e' := [(0, .pointer (some ⟨bp0, 0, none⟩)), (1, .int .u8 p1), (9, .bool (p1 == (26 : Int)))]) rfl trivial fun a hk => ?_
      refine wpListIn_nil ?_
      refine then_n ?_
      exact ⟨oi, (p1 == (26 : Int)), (by exact Kn.pick (ks := [0, 1, 9]) hk rfl), hs, f900000, f900001, f900019, H⟩
    · rw [b252] at hk H
      replace H := bifT H
      refine x_run tab hk (k := 4) (lv := []) (ks := [0, 1, 9]) (e' := [(0, .pointer (some ⟨bp0, 0, none⟩)), (1, .int .u8 p1), (9, .bool true)]) rfl trivial fun a hk => ?_
      refine wpListIn_nil ?_
      refine then_n ?_
      exact ⟨oi, true, (by exact Kn.pick (ks := [0, 1, 9]) hk rfl), hs, f900000, f900001, f900019, H⟩
  · rw [b1] at hk H
    replace H := bifT H
    refine x_if hk (b := true) rfl ?_
    refine (show Code.wpIn _ _ _ _ _ _ _ from ?_)
    refine wpIn_region_lit ?_
    refine x_run tab hk (k := 1) (lv := []) (ks := [7]) (e' := [(7, .pointer (some ⟨bp0, 0, none⟩))]) rfl trivial fun a hk => ?_
    refine x_op hk rfl ?_
    obtain ⟨t256, hc257, H⟩ := bindS H
    refine op_call hk ent_82 (vs := [.pointer (some ⟨bp0, 0, none⟩)]) rfl (seq_Parser_over_calls K bp0 Ap0_0 cp0_0 Ap0_1 cp0_1 p0 _ oi 1 2 f900019 3 f900000 hcp0_0 4 f900001 hcp0_1 (by decide)   _ hc257) ?_
    rintro _ w258 ⟨o259, A262, c263, A266, c267, rfl, st260, f261, f264, hc265, f268, hc269⟩
    replace hs := hs.locQ st260 hob rfl
    have hk := hk.put 8 (.tuple #[]) rfl
    refine wpListIn_nil ?_
    refine blk_n ?_
    obtain rfl := Option.some.inj H
    exact x_endG hk (rs := []) (vs := []) rfl trivial ⟨cl w oi o [2, 3, 4] (fun l_ => if l_ = 1 then LF else if l_ = 2 then Lp0 else if l_ = 3 then Lp0_0 else if l_ = 4 then Lp0_1 else 0) o259, A262, c263, A266, c267, rfl, hs.closeF (Lm := [Lp0, Lp0_0, Lp0_1]) (Sh := []) hoa rfl (fun l_ => if l_ = 1 then LF else if l_ = 2 then Lp0 else if l_ = 3 then Lp0_0 else if l_ = 4 then Lp0_1 else 0), hs.closeM_ft (o := o) (ρ := fun l_ => if l_ = 1 then LF else if l_ = 2 then Lp0 else if l_ = 3 then Lp0_0 else if l_ = 4 then Lp0_1 else 0) f261 (lab_at hoa (i := 1) rfl) rfl, f264.conv (fun _ h_ => hs.closeM_ft (o := o) (ρ := fun l_ => if l_ = 1 then LF else if l_ = 2 then Lp0 else if l_ = 3 then Lp0_0 else if l_ = 4 then Lp0_1 else 0) h_ (lab_at hoa (i := 2) rfl) rfl) (fun _ h_ => hs.closeM_ft (o := o) (ρ := fun l_ => if l_ = 1 then LF else if l_ = 2 then Lp0 else if l_ = 3 then Lp0_0 else if l_ = 4 then Lp0_1 else 0) h_ (lab_at hoa (i := 0) rfl) rfl), hc265, f268.conv (fun _ h_ => hs.closeM_ft (o := o) (ρ := fun l_ => if l_ = 1 then LF else if l_ = 2 then Lp0 else if l_ = 3 then Lp0_0 else if l_ = 4 then Lp0_1 else 0) h_ (lab_at hoa (i := 3) rfl) rfl) (fun _ h_ => hs.closeM_ft (o := o) (ρ := fun l_ => if l_ = 1 then LF else if l_ = 2 then Lp0 else if l_ = 3 then Lp0_0 else if l_ = 4 then Lp0_1 else 0) h_ (lab_at hoa (i := 0) rfl) rfl), hc269⟩

/-! (*tidewrack/seq.Parser).one -/
theorem seq_Parser_one_calls (K : Nat) (bp0 : Nat) (Ap0_0 : Option Addr) (cp0_0 : Nat) (Ap0_1 : Option Addr) (cp0_1 : Nat) (p0 : T47) (p1 : Int) (w : World) (o : Nat → Nat) (LF : Nat) (Lg3 : Nat) (hg3 : Ft (RdC ET192 (some ⟨3, 0, none⟩) glob3) w o Lg3) (Lp0 : Nat) (hp0 : Ft (Bx bp0 48 [.int .i64 p0.state, .bool p0.order_private_, .bool p0.order_wrong, .bool p0.order_any, .bool p0.order_some, .int .i64 p0.order_n, .slice Ap0_0 (p0.order_nums).length cp0_0, .string p0.text, .int .u8 p0.runes_Lead, .int .i32 p0.runes_Rune, .int .i64 p0.runes_Need, .slice Ap0_1 (p0.out).length cp0_1]) w o Lp0) (Lp0_0 : Nat) (hp0_0 : CO (encInt .i64) 3 Ap0_0 cp0_0 p0.order_nums (p0.state == (3 : Int)) w o Lp0_0 LF) (hcp0_0 : (p0.order_nums).length ≤ cp0_0) (Lp0_1 : Nat) (hp0_1 : NOwn dT50 51 Ap0_1 cp0_1 p0.out w o Lp0_1 LF) (hcp0_1 : (p0.out).length ≤ cp0_1) (hd0 : ([LF, Lp0, Lp0_0, Lp0_1] : List Nat).Nodup) (hd1 : Lg3 ∉ [LF, Lp0, Lp0_0, Lp0_1]) (r : T47) (H : seq_Parser_one K p0 p1 = some r) :
    Calls Tryd.prog 45 #[.pointer (some ⟨bp0, 0, none⟩), .int .u8 p1] w (Ret fun v_ w' => ∃ o' : Nat → Nat, ∃ A0 : Option Addr, ∃ c0 : Nat, ∃ A1 : Option Addr, ∃ c1 : Nat, v_ = .tuple #[] ∧ St [Lp0, Lp0_0, Lp0_1] w o w' o' ∧ Ft (Bx bp0 48 [.int .i64 r.state, .bool r.order_private_, .bool r.order_wrong, .bool r.order_any, .bool r.order_some, .int .i64 r.order_n, .slice A0 (r.order_nums).length c0, .string r.text, .int .u8 r.runes_Lead, .int .i32 r.runes_Rune, .int .i64 r.runes_Need, .slice A1 (r.out).length c1]) w' o' Lp0 ∧ CO (encInt .i64) 3 A0 c0 (r.order_nums) (r.state == (3 : Int)) w' o' Lp0_0 LF ∧ (r.order_nums).length ≤ c0 ∧ NOwn dT50 51 A1 c1 r.out w' o' Lp0_1 LF ∧ (r.out).length ≤ c1) := by
  refine x_enter (vs := [.pointer (some ⟨bp0, 0, none⟩), .int .u8 p1]) Tryd.func45 rfl rfl rfl fun a hk => ?_
  obtain ⟨oi, hs0, h0, h1, hob, hoz, hoa⟩ := St.startM2 w o (m := 4) hd0 rfl
  have hs := hs0 [2, 3, 4]
  have fg3 := h0 _ _ hd1 hg3
  have f900000 := hp0_0.conv (fun _ h_ => h1 2 3 h_ rfl rfl) (fun _ h_ => h1 0 1 h_ rfl rfl)
  have f900001 := hp0_1.conv (fun _ h_ => h1 3 4 h_ rfl rfl) (fun _ h_ => h1 0 1 h_ rfl rfl)
  have f900019 := h1 1 2 hp0 rfl rfl
  clear h0 h1 hs0
  rw [seq_Parser_one] at H
  refine x_seq ?_
  refine wpIn_region_lit ?_
  refine x_run tab hk (k := 4) (lv := [.int .i64 p0.state]) (ks := [0, 1, 7]) (e' := [(0, .pointer (some ⟨bp0, 0, none⟩)), (1, .int .u8 p1), (7, .int .i64 p0.state)]) rfl ⟨(load1 tab rfl ((Bx.cell f900019.now 0).trans rfl)), trivial⟩ fun a hk => ?_
  refine wpListIn_nil ?_
  refine then_n ?_
  refine wpIn_block ?_
  refine x_seq ?_
  refine wpIn_region_lit ?_
  refine x_run tab hk (k := 2) (lv := []) (ks := [0, 1, 7, 18]) (e' := [(0, .pointer (some ⟨bp0, 0, none⟩)), (1, .int .u8 p1), (7, .int .i64 p0.state), (18, .bool (p0.state == (0 : Int)))]) rfl trivial fun a hk => ?_
  refine wpListIn_nil ?_
  refine then_n ?_
  cases b1 : (p0.state == (0 : Int))
  · rw [b1] at hk H
    replace H := bifF H
    refine x_if hk (b := false) rfl ?_
    refine (show Code.wpIn _ _ _ _ _ _ _ from ?_)
    refine x_seq ?_
    refine wpIn_region_lit ?_
    refine x_run tab hk (k := 2) (lv := []) (ks := [0, 1, 7, 23]) (e' := [(0, .pointer (some ⟨bp0, 0, none⟩)), (1, .int .u8 p1), (7, .int .i64 p0.state), (23, .bool (p0.state == (1 : Int)))]) rfl trivial fun a hk => ?_
    refine wpListIn_nil ?_
    refine then_n ?_
    cases b2 : (p0.state == (1 : Int))
    · rw [b2] at hk H
      replace H := bifF H
      refine x_if hk (b := false) rfl ?_
      refine (show Code.wpIn _ _ _ _ _ _ _ from ?_)
      refine x_seq ?_
      refine wpIn_region_lit ?_
      refine x_run tab hk (k := 2) (lv := []) (ks := [0, 1, 7, 28]) (e' := [(0, .pointer (some ⟨bp0, 0, none⟩)), (1, .int .u8 p1), (7, .int .i64 p0.state), (28, .bool (p0.state == (2 : Int)))]) rfl trivial fun a hk => ?_
      refine wpListIn_nil ?_
      refine then_n ?_
      cases b3 : (p0.state == (2 : Int))
      · rw [b3] at hk H
        replace H := bifF H
        refine x_if hk (b := false) rfl ?_
        refine (show Code.wpIn _ _ _ _ _ _ _ from ?_)
        refine x_seq ?_
        refine wpIn_region_lit ?_
        refine x_run tab hk (k := 2) (lv := []) (ks := [0, 1, 7, 33]) (e' := [(0, .pointer (some ⟨bp0, 0, none⟩)), (1, .int .u8 p1), (7, .int .i64 p0.state), (33, .bool (p0.state == (3 : Int)))]) rfl trivial fun a hk => ?_
        refine wpListIn_nil ?_
        refine then_n ?_
        cases b4 : (p0.state == (3 : Int))
        · rw [b4] at hk H
          replace H := bifF H
          refine x_if hk (b := false) rfl ?_
          refine (show Code.wpIn _ _ _ _ _ _ _ from ?_)
          refine x_seq ?_
          refine wpIn_region_lit ?_
          refine x_run tab hk (k := 2) (lv := []) (ks := [0, 1, 38]) (e' := [(0, .pointer (some ⟨bp0, 0, none⟩)), (1, .int .u8 p1), (38, .bool (p0.state == (4 : Int)))]) rfl trivial fun a hk => ?_
          refine wpListIn_nil ?_
          refine then_n ?_
          cases b5 : (p0.state == (4 : Int))
          · rw [b5] at hk H
            replace H := bifF H
            refine x_if hk (b := false) rfl ?_
            refine (show Code.wpIn _ _ _ _ _ _ _ from ?_)
            refine x_seq ?_
            refine x_seq ?_
            refine wpIn_region_lit ?_
            refine x_run tab hk (k := 2) (lv := []) (ks := [0, 1, 9]) (e' := [(0, .pointer (some ⟨bp0, 0, none⟩)), (1, .int .u8 p1), (9, .bool (p1 == (92 : Int)))]) rfl trivial fun a hk => ?_
            refine wpListIn_nil ?_
            refine then_n ?_
            cases b6 : (p1 == (92 : Int))
            · rw [b6] at hk H
              replace H := bifF H
              refine x_if hk (b := false) rfl ?_
              refine (show Code.wpIn _ _ _ _ _ _ _ from ?_)
              refine wpIn_skip ?_
              refine then_n ?_
              refine x_seq ?_
              refine wpIn_region_lit ?_
              refine x_run tab hk (k := 3) (lv := []) (ks := [0, 1, 14]) (e' := [(0, .pointer (some ⟨bp0, 0, none⟩)), (1, .int .u8 p1), (14, .pointer (some ⟨bp0, 0, none⟩))]) rfl trivial fun a hk => ?_
              refine x_op hk rfl ?_
              refine op_store tab hk (t := 3) (v := .int .i64 1) (b := bp0) (k := 0) (cs' := [.int .i64 1, .bool p0.order_private_, .bool p0.order_wrong, .bool p0.order_any, .bool p0.order_some, .int .i64 p0.order_n, .slice Ap0_0 (p0.order_nums).length cp0_0, .string p0.text, .int .u8 p0.runes_Lead, .int .i32 p0.runes_Rune, .int .i64 p0.runes_Need, .slice Ap0_1 (p0.out).length cp0_1]) rfl rfl rfl rfl rfl rfl f900019 rfl rfl fun w7 o8 st9 f900019_ => ?_
              replace f900000 := f900000.st st9 (by decide)
              replace f900001 := f900001.st st9 (by decide)
              replace fg3 := fg3.st st9 (by decide)
              replace hs := hs.locQ st9 hob rfl
              replace f900019 := f900019_
              replace f900000 := f900000.weak
              refine wpListIn_nil ?_
              refine then_n ?_
              refine wpIn_region_lit ?_
              refine x_run tab hk (k := 2) (lv := []) (ks := [15, 16]) (e' := [(15, .pointer (some ⟨bp0, 0, none⟩)), (16, .int .u8 p1)]) rfl trivial fun a hk => ?_
              refine x_op hk rfl ?_
              obtain ⟨t13, hc14, H⟩ := bindS H
              refine op_call hk ent_78 (vs := [.pointer (some ⟨bp0, 0, none⟩), .int .u8 p1]) rfl (seq_Parser_onEscape_calls bp0 Ap0_0 cp0_0 Ap0_1 cp0_1 (⟨1, p0.order_private_, p0.order_wrong, p0.order_any, p0.order_some, p0.order_n, p0.order_nums, p0.text, p0.runes_Lead, p0.runes_Rune, p0.runes_Need, p0.out⟩ : T47) p1 _ o8 1 2 f900019 3 f900000 hcp0_0 4 f900001 hcp0_1 (by decide)   _ hc14) ?_
              rintro _ w15 ⟨o16, A19, c20, A23, c24, rfl, st17, f18, f21, hc22, f25, hc26⟩
              replace fg3 := fg3.st st17 (by decide)
              replace hs := hs.locQ st17 hob rfl
              have hk := hk.put 17 (.tuple #[]) rfl
              refine wpListIn_nil ?_
              refine blk_n ?_
              obtain rfl := Option.some.inj H
              exact x_endG hk (rs := []) (vs := []) rfl trivial ⟨cl w oi o [2, 3, 4] (fun l_ => if l_ = 1 then LF else if l_ = 2 then Lp0 else if l_ = 3 then Lp0_0 else if l_ = 4 then Lp0_1 else 0) o16, A19, c20, A23, c24, rfl, hs.closeF (Lm := [Lp0, Lp0_0, Lp0_1]) (Sh := []) hoa rfl (fun l_ => if l_ = 1 then LF else if l_ = 2 then Lp0 else if l_ = 3 then Lp0_0 else if l_ = 4 then Lp0_1 else 0), hs.closeM_ft (o := o) (ρ := fun l_ => if l_ = 1 then LF else if l_ = 2 then Lp0 else if l_ = 3 then Lp0_0 else if l_ = 4 then Lp0_1 else 0) f18 (lab_at hoa (i := 1) rfl) rfl, f21.conv (fun _ h_ => hs.closeM_ft (o := o) (ρ := fun l_ => if l_ = 1 then LF else if l_ = 2 then Lp0 else if l_ = 3 then Lp0_0 else if l_ = 4 then Lp0_1 else 0) h_ (lab_at hoa (i := 2) rfl) rfl) (fun _ h_ => hs.closeM_ft (o := o) (ρ := fun l_ => if l_ = 1 then LF else if l_ = 2 then Lp0 else if l_ = 3 then Lp0_0 else if l_ = 4 then Lp0_1 else 0) h_ (lab_at hoa (i := 0) rfl) rfl), hc22, f25.conv (fun _ h_ => hs.closeM_ft (o := o) (ρ := fun l_ => if l_ = 1 then LF else if l_ = 2 then Lp0 else if l_ = 3 then Lp0_0 else if l_ = 4 then Lp0_1 else 0) h_ (lab_at hoa (i := 3) rfl) rfl) (fun _ h_ => hs.closeM_ft (o := o) (ρ := fun l_ => if l_ = 1 then LF else if l_ = 2 then Lp0 else if l_ = 3 then Lp0_0 else if l_ = 4 then Lp0_1 else 0) h_ (lab_at hoa (i := 0) rfl) rfl), hc26⟩
            · rw [b6] at hk H
              replace H := bifT H
              refine x_if hk (b := true) rfl ?_
              refine (show Code.wpIn _ _ _ _ _ _ _ from ?_)
              refine x_seq ?_
              refine wpIn_region_lit ?_
              refine x_run tab hk (k := 1) (lv := []) (ks := [10]) (e' := [(10, .pointer (some ⟨bp0, 0, none⟩))]) rfl trivial fun a hk => ?_
              refine x_op hk rfl ?_
              obtain ⟨t30, hc31, H⟩ := bindS H
              refine op_call hk ent_82 (vs := [.pointer (some ⟨bp0, 0, none⟩)]) rfl (seq_Parser_over_calls K bp0 Ap0_0 cp0_0 Ap0_1 cp0_1 p0 _ oi 1 2 f900019 3 f900000 hcp0_0 4 f900001 hcp0_1 (by decide)   _ hc31) ?_
              rintro _ w32 ⟨o33, A36, c37, A40, c41, rfl, st34, f35, f38, hc39, f42, hc43⟩
              replace fg3 := fg3.st st34 (by decide)
              replace hs := hs.locQ st34 hob rfl
              have hk := hk.put 11 (.tuple #[]) rfl
              refine wpListIn_nil ?_
              refine then_n ?_
              refine wpIn_ret ?_
              refine then_r ?_
              refine blk_r ?_
              obtain rfl := Option.some.inj H
              exact x_retG hk (rs := []) (vs := []) rfl trivial ⟨cl w oi o [2, 3, 4] (fun l_ => if l_ = 1 then LF else if l_ = 2 then Lp0 else if l_ = 3 then Lp0_0 else if l_ = 4 then Lp0_1 else 0) o33, A36, c37, A40, c41, rfl, hs.closeF (Lm := [Lp0, Lp0_0, Lp0_1]) (Sh := []) hoa rfl (fun l_ => if l_ = 1 then LF else if l_ = 2 then Lp0 else if l_ = 3 then Lp0_0 else if l_ = 4 then Lp0_1 else 0), hs.closeM_ft (o := o) (ρ := fun l_ => if l_ = 1 then LF else if l_ = 2 then Lp0 else if l_ = 3 then Lp0_0 else if l_ = 4 then Lp0_1 else 0) f35 (lab_at hoa (i := 1) rfl) rfl, f38.conv (fun _ h_ => hs.closeM_ft (o := o) (ρ := fun l_ => if l_ = 1 then LF else if l_ = 2 then Lp0 else if l_ = 3 then Lp0_0 else if l_ = 4 then Lp0_1 else 0) h_ (lab_at hoa (i := 2) rfl) rfl) (fun _ h_ => hs.closeM_ft (o := o) (ρ := fun l_ => if l_ = 1 then LF else if l_ = 2 then Lp0 else if l_ = 3 then Lp0_0 else if l_ = 4 then Lp0_1 else 0) h_ (lab_at hoa (i := 0) rfl) rfl), hc39, f42.conv (fun _ h_ => hs.closeM_ft (o := o) (ρ := fun l_ => if l_ = 1 then LF else if l_ = 2 then Lp0 else if l_ = 3 then Lp0_0 else if l_ = 4 then Lp0_1 else 0) h_ (lab_at hoa (i := 3) rfl) rfl) (fun _ h_ => hs.closeM_ft (o := o) (ρ := fun l_ => if l_ = 1 then LF else if l_ = 2 then Lp0 else if l_ = 3 then Lp0_0 else if l_ = 4 then Lp0_1 else 0) h_ (lab_at hoa (i := 0) rfl) rfl), hc43⟩
          · rw [b5] at hk H
            replace H := bifT H
            refine x_if hk (b := true) rfl ?_
            refine (show Code.wpIn _ _ _ _ _ _ _ from ?_)
            refine wpIn_region_lit ?_
            refine x_run tab hk (k := 2) (lv := []) (ks := [40, 41]) (e' := [(40, .pointer (some ⟨bp0, 0, none⟩)), (41, .int .u8 p1)]) rfl trivial fun a hk => ?_
            refine x_op hk rfl ?_
            obtain ⟨t47, hc48, H⟩ := bindS H
            refine op_call hk ent_81 (vs := [.pointer (some ⟨bp0, 0, none⟩), .int .u8 p1]) rfl (seq_Parser_onTitle_calls K bp0 Ap0_0 cp0_0 Ap0_1 cp0_1 p0 p1 _ oi 1 2 f900019 3 f900000 hcp0_0 4 f900001 hcp0_1 (by decide)   _ hc48) ?_
            rintro _ w49 ⟨o50, A53, c54, A57, c58, rfl, st51, f52, f55, hc56, f59, hc60⟩
            replace fg3 := fg3.st st51 (by decide)
            replace hs := hs.locQ st51 hob rfl
            have hk := hk.put 42 (.tuple #[]) rfl
            refine wpListIn_nil ?_
            refine blk_n ?_
            obtain rfl := Option.some.inj H
            exact x_endG hk (rs := []) (vs := []) rfl trivial ⟨cl w oi o [2, 3, 4] (fun l_ => if l_ = 1 then LF else if l_ = 2 then Lp0 else if l_ = 3 then Lp0_0 else if l_ = 4 then Lp0_1 else 0) o50, A53, c54, A57, c58, rfl, hs.closeF (Lm := [Lp0, Lp0_0, Lp0_1]) (Sh := []) hoa rfl (fun l_ => if l_ = 1 then LF else if l_ = 2 then Lp0 else if l_ = 3 then Lp0_0 else if l_ = 4 then Lp0_1 else 0), hs.closeM_ft (o := o) (ρ := fun l_ => if l_ = 1 then LF else if l_ = 2 then Lp0 else if l_ = 3 then Lp0_0 else if l_ = 4 then Lp0_1 else 0) f52 (lab_at hoa (i := 1) rfl) rfl, f55.conv (fun _ h_ => hs.closeM_ft (o := o) (ρ := fun l_ => if l_ = 1 then LF else if l_ = 2 then Lp0 else if l_ = 3 then Lp0_0 else if l_ = 4 then Lp0_1 else 0) h_ (lab_at hoa (i := 2) rfl) rfl) (fun _ h_ => hs.closeM_ft (o := o) (ρ := fun l_ => if l_ = 1 then LF else if l_ = 2 then Lp0 else if l_ = 3 then Lp0_0 else if l_ = 4 then Lp0_1 else 0) h_ (lab_at hoa (i := 0) rfl) rfl), hc56, f59.conv (fun _ h_ => hs.closeM_ft (o := o) (ρ := fun l_ => if l_ = 1 then LF else if l_ = 2 then Lp0 else if l_ = 3 then Lp0_0 else if l_ = 4 then Lp0_1 else 0) h_ (lab_at hoa (i := 3) rfl) rfl) (fun _ h_ => hs.closeM_ft (o := o) (ρ := fun l_ => if l_ = 1 then LF else if l_ = 2 then Lp0 else if l_ = 3 then Lp0_0 else if l_ = 4 then Lp0_1 else 0) h_ (lab_at hoa (i := 0) rfl) rfl), hc60⟩
        · rw [b4] at hk H
          replace H := bifT H
          refine x_if hk (b := true) rfl ?_
          refine (show Code.wpIn _ _ _ _ _ _ _ from ?_)
          refine wpIn_region_lit ?_
          refine x_run tab hk (k := 2) (lv := []) (ks := [35, 36]) (e' := [(35, .pointer (some ⟨bp0, 0, none⟩)), (36, .int .u8 p1)]) rfl trivial fun a hk => ?_
          refine x_op hk rfl ?_
          obtain ⟨t64, hc65, H⟩ := bindS H
          refine op_call hk ent_80 (vs := [.pointer (some ⟨bp0, 0, none⟩), .int .u8 p1]) rfl (seq_Parser_onCommand_calls bp0 Ap0_0 cp0_0 Ap0_1 cp0_1 p0 p1 _ oi 1 2 f900019 3 (f900000.1 b4) hcp0_0 4 f900001 hcp0_1 (by decide)   _ hc65) ?_
          rintro _ w66 ⟨o67, A70, c71, A74, c75, rfl, st68, f69, f72, hc73, f76, hc77⟩
          replace fg3 := fg3.st st68 (by decide)
          replace hs := hs.locQ st68 hob rfl
          have hk := hk.put 37 (.tuple #[]) rfl
          refine wpListIn_nil ?_
          refine blk_n ?_
          obtain rfl := Option.some.inj H
          exact x_endG hk (rs := []) (vs := []) rfl trivial ⟨cl w oi o [2, 3, 4] (fun l_ => if l_ = 1 then LF else if l_ = 2 then Lp0 else if l_ = 3 then Lp0_0 else if l_ = 4 then Lp0_1 else 0) o67, A70, c71, A74, c75, rfl, hs.closeF (Lm := [Lp0, Lp0_0, Lp0_1]) (Sh := []) hoa rfl (fun l_ => if l_ = 1 then LF else if l_ = 2 then Lp0 else if l_ = 3 then Lp0_0 else if l_ = 4 then Lp0_1 else 0), hs.closeM_ft (o := o) (ρ := fun l_ => if l_ = 1 then LF else if l_ = 2 then Lp0 else if l_ = 3 then Lp0_0 else if l_ = 4 then Lp0_1 else 0) f69 (lab_at hoa (i := 1) rfl) rfl, f72.conv (fun _ h_ => hs.closeM_ft (o := o) (ρ := fun l_ => if l_ = 1 then LF else if l_ = 2 then Lp0 else if l_ = 3 then Lp0_0 else if l_ = 4 then Lp0_1 else 0) h_ (lab_at hoa (i := 2) rfl) rfl) (fun _ h_ => hs.closeM_ft (o := o) (ρ := fun l_ => if l_ = 1 then LF else if l_ = 2 then Lp0 else if l_ = 3 then Lp0_0 else if l_ = 4 then Lp0_1 else 0) h_ (lab_at hoa (i := 0) rfl) rfl), hc73, f76.conv (fun _ h_ => hs.closeM_ft (o := o) (ρ := fun l_ => if l_ = 1 then LF else if l_ = 2 then Lp0 else if l_ = 3 then Lp0_0 else if l_ = 4 then Lp0_1 else 0) h_ (lab_at hoa (i := 3) rfl) rfl) (fun _ h_ => hs.closeM_ft (o := o) (ρ := fun l_ => if l_ = 1 then LF else if l_ = 2 then Lp0 else if l_ = 3 then Lp0_0 else if l_ = 4 then Lp0_1 else 0) h_ (lab_at hoa (i := 0) rfl) rfl), hc77⟩
      · rw [b3] at hk H
        replace H := bifT H
        refine x_if hk (b := true) rfl ?_
        refine (show Code.wpIn _ _ _ _ _ _ _ from ?_)
        refine wpIn_region_lit ?_
        refine x_run tab hk (k := 2) (lv := []) (ks := [30, 31]) (e' := [(30, .pointer (some ⟨bp0, 0, none⟩)), (31, .int .u8 p1)]) rfl trivial fun a hk => ?_
        refine x_op hk rfl ?_
        obtain ⟨t81, hc82, H⟩ := bindS H
        refine op_call hk ent_79 (vs := [.pointer (some ⟨bp0, 0, none⟩), .int .u8 p1]) rfl (seq_Parser_onSkip_calls bp0 Ap0_0 cp0_0 Ap0_1 cp0_1 p0 p1 _ oi 1 2 f900019 3 f900000 hcp0_0 4 f900001 hcp0_1 (by decide)   _ hc82) ?_
        rintro _ w83 ⟨o84, A87, c88, A91, c92, rfl, st85, f86, f89, hc90, f93, hc94⟩
        replace fg3 := fg3.st st85 (by decide)
        replace hs := hs.locQ st85 hob rfl
        have hk := hk.put 32 (.tuple #[]) rfl
        refine wpListIn_nil ?_
        refine blk_n ?_
        obtain rfl := Option.some.inj H
        exact x_endG hk (rs := []) (vs := []) rfl trivial ⟨cl w oi o [2, 3, 4] (fun l_ => if l_ = 1 then LF else if l_ = 2 then Lp0 else if l_ = 3 then Lp0_0 else if l_ = 4 then Lp0_1 else 0) o84, A87, c88, A91, c92, rfl, hs.closeF (Lm := [Lp0, Lp0_0, Lp0_1]) (Sh := []) hoa rfl (fun l_ => if l_ = 1 then LF else if l_ = 2 then Lp0 else if l_ = 3 then Lp0_0 else if l_ = 4 then Lp0_1 else 0), hs.closeM_ft (o := o) (ρ := fun l_ => if l_ = 1 then LF else if l_ = 2 then Lp0 else if l_ = 3 then Lp0_0 else if l_ = 4 then Lp0_1 else 0) f86 (lab_at hoa (i := 1) rfl) rfl, f89.conv (fun _ h_ => hs.closeM_ft (o := o) (ρ := fun l_ => if l_ = 1 then LF else if l_ = 2 then Lp0 else if l_ = 3 then Lp0_0 else if l_ = 4 then Lp0_1 else 0) h_ (lab_at hoa (i := 2) rfl) rfl) (fun _ h_ => hs.closeM_ft (o := o) (ρ := fun l_ => if l_ = 1 then LF else if l_ = 2 then Lp0 else if l_ = 3 then Lp0_0 else if l_ = 4 then Lp0_1 else 0) h_ (lab_at hoa (i := 0) rfl) rfl), hc90, f93.conv (fun _ h_ => hs.closeM_ft (o := o) (ρ := fun l_ => if l_ = 1 then LF else if l_ = 2 then Lp0 else if l_ = 3 then Lp0_0 else if l_ = 4 then Lp0_1 else 0) h_ (lab_at hoa (i := 3) rfl) rfl) (fun _ h_ => hs.closeM_ft (o := o) (ρ := fun l_ => if l_ = 1 then LF else if l_ = 2 then Lp0 else if l_ = 3 then Lp0_0 else if l_ = 4 then Lp0_1 else 0) h_ (lab_at hoa (i := 0) rfl) rfl), hc94⟩
    · rw [b2] at hk H
      replace H := bifT H
      refine x_if hk (b := true) rfl ?_
      refine (show Code.wpIn _ _ _ _ _ _ _ from ?_)
      refine wpIn_region_lit ?_
      refine x_run tab hk (k := 2) (lv := []) (ks := [25, 26]) (e' := [(25, .pointer (some ⟨bp0, 0, none⟩)), (26, .int .u8 p1)]) rfl trivial fun a hk => ?_
      refine x_op hk rfl ?_
      obtain ⟨t98, hc99, H⟩ := bindS H
      refine op_call hk ent_78 (vs := [.pointer (some ⟨bp0, 0, none⟩), .int .u8 p1]) rfl (seq_Parser_onEscape_calls bp0 Ap0_0 cp0_0 Ap0_1 cp0_1 p0 p1 _ oi 1 2 f900019 3 f900000 hcp0_0 4 f900001 hcp0_1 (by decide)   _ hc99) ?_
      rintro _ w100 ⟨o101, A104, c105, A108, c109, rfl, st102, f103, f106, hc107, f110, hc111⟩
      replace fg3 := fg3.st st102 (by decide)
      replace hs := hs.locQ st102 hob rfl
      have hk := hk.put 27 (.tuple #[]) rfl
      refine wpListIn_nil ?_
      refine blk_n ?_
      obtain rfl := Option.some.inj H
      exact x_endG hk (rs := []) (vs := []) rfl trivial ⟨cl w oi o [2, 3, 4] (fun l_ => if l_ = 1 then LF else if l_ = 2 then Lp0 else if l_ = 3 then Lp0_0 else if l_ = 4 then Lp0_1 else 0) o101, A104, c105, A108, c109, rfl, hs.closeF (Lm := [Lp0, Lp0_0, Lp0_1]) (Sh := []) hoa rfl (fun l_ => if l_ = 1 then LF else if l_ = 2 then Lp0 else if l_ = 3 then Lp0_0 else if l_ = 4 then Lp0_1 else 0), hs.closeM_ft (o := o) (ρ := fun l_ => if l_ = 1 then LF else if l_ = 2 then Lp0 else if l_ = 3 then Lp0_0 else if l_ = 4 then Lp0_1 else 0) f103 (lab_at hoa (i := 1) rfl) rfl, f106.conv (fun _ h_ => hs.closeM_ft (o := o) (ρ := fun l_ => if l_ = 1 then LF else if l_ = 2 then Lp0 else if l_ = 3 then Lp0_0 else if l_ = 4 then Lp0_1 else 0) h_ (lab_at hoa (i := 2) rfl) rfl) (fun _ h_ => hs.closeM_ft (o := o) (ρ := fun l_ => if l_ = 1 then LF else if l_ = 2 then Lp0 else if l_ = 3 then Lp0_0 else if l_ = 4 then Lp0_1 else 0) h_ (lab_at hoa (i := 0) rfl) rfl), hc107, f110.conv (fun _ h_ => hs.closeM_ft (o := o) (ρ := fun l_ => if l_ = 1 then LF else if l_ = 2 then Lp0 else if l_ = 3 then Lp0_0 else if l_ = 4 then Lp0_1 else 0) h_ (lab_at hoa (i := 3) rfl) rfl) (fun _ h_ => hs.closeM_ft (o := o) (ρ := fun l_ => if l_ = 1 then LF else if l_ = 2 then Lp0 else if l_ = 3 then Lp0_0 else if l_ = 4 then Lp0_1 else 0) h_ (lab_at hoa (i := 0) rfl) rfl), hc111⟩
  · rw [b1] at hk H
    replace H := bifT H
    refine x_if hk (b := true) rfl ?_
    refine (show Code.wpIn _ _ _ _ _ _ _ from ?_)
    refine wpIn_region_lit ?_
    refine x_run tab hk (k := 2) (lv := []) (ks := [20, 21]) (e' := [(20, .pointer (some ⟨bp0, 0, none⟩)), (21, .int .u8 p1)]) rfl trivial fun a hk => ?_
    refine x_op hk rfl ?_
    obtain ⟨t115, hc116, H⟩ := bindS H
    refine op_call hk ent_77 (vs := [.pointer (some ⟨bp0, 0, none⟩), .int .u8 p1]) rfl (seq_Parser_onGround_calls K bp0 Ap0_0 cp0_0 Ap0_1 cp0_1 p0 p1 _ oi 1 0 fg3 2 f900019 3 f900000 hcp0_0 4 f900001 hcp0_1 (by decide) (by decide)   _ hc116) ?_
    rintro _ w117 ⟨o118, A121, c122, A125, c126, rfl, st119, f120, f123, hc124, f127, hc128⟩
    replace fg3 := fg3.st st119 (by decide)
    replace hs := hs.locQ st119 hob rfl
    have hk := hk.put 22 (.tuple #[]) rfl
    refine wpListIn_nil ?_
    refine blk_n ?_
    obtain rfl := Option.some.inj H
    exact x_endG hk (rs := []) (vs := []) rfl trivial ⟨cl w oi o [2, 3, 4] (fun l_ => if l_ = 1 then LF else if l_ = 2 then Lp0 else if l_ = 3 then Lp0_0 else if l_ = 4 then Lp0_1 else 0) o118, A121, c122, A125, c126, rfl, hs.closeF (Lm := [Lp0, Lp0_0, Lp0_1]) (Sh := []) hoa rfl (fun l_ => if l_ = 1 then LF else if l_ = 2 then Lp0 else if l_ = 3 then Lp0_0 else if l_ = 4 then Lp0_1 else 0), hs.closeM_ft (o := o) (ρ := fun l_ => if l_ = 1 then LF else if l_ = 2 then Lp0 else if l_ = 3 then Lp0_0 else if l_ = 4 then Lp0_1 else 0) f120 (lab_at hoa (i := 1) rfl) rfl, f123.conv (fun _ h_ => hs.closeM_ft (o := o) (ρ := fun l_ => if l_ = 1 then LF else if l_ = 2 then Lp0 else if l_ = 3 then Lp0_0 else if l_ = 4 then Lp0_1 else 0) h_ (lab_at hoa (i := 2) rfl) rfl) (fun _ h_ => hs.closeM_ft (o := o) (ρ := fun l_ => if l_ = 1 then LF else if l_ = 2 then Lp0 else if l_ = 3 then Lp0_0 else if l_ = 4 then Lp0_1 else 0) h_ (lab_at hoa (i := 0) rfl) rfl), hc124, f127.conv (fun _ h_ => hs.closeM_ft (o := o) (ρ := fun l_ => if l_ = 1 then LF else if l_ = 2 then Lp0 else if l_ = 3 then Lp0_0 else if l_ = 4 then Lp0_1 else 0) h_ (lab_at hoa (i := 3) rfl) rfl) (fun _ h_ => hs.closeM_ft (o := o) (ρ := fun l_ => if l_ = 1 then LF else if l_ = 2 then Lp0 else if l_ = 3 then Lp0_0 else if l_ = 4 then Lp0_1 else 0) h_ (lab_at hoa (i := 0) rfl) rfl), hc128⟩

end Go.Proofs.YtpciioffkjpieaaDoor
