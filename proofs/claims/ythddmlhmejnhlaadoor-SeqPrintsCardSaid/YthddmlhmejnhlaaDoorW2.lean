/- Walks, printed by an own program: the machine's calls compute the plain functions. -/
import Derived.Test.YthddmlhmejnhlaaDoorW1
set_option linter.unusedVariables false
set_option linter.unusedSimpArgs false
namespace Go.Proofs.YthddmlhmejnhlaaDoor
open Go Go.Proofs.XC
/-! (*tidewrack/seq.Parser).tell -/
theorem seq_Parser_tell_ofown_calls (bp0 : Nat) (Ap0_0 : Option Addr) (cp0_0 : Nat) (Ap0_1 : Option Addr) (cp0_1 : Nat) (p0 : T30) (Ap1_0 : Option Addr) (cp1_0 : Nat) (p1 : T37) (w : World) (o : Nat → Nat) (LF : Nat) (Lp0 : Nat) (hp0 : Ft (Bx bp0 31 [.int .i64 p0.state, .bool p0.order_private_, .bool p0.order_wrong, .bool p0.order_any, .bool p0.order_some, .int .i64 p0.order_n, .slice Ap0_0 (p0.order_nums).length cp0_0, .string p0.text, .int .u8 p0.runes_Lead, .int .i32 p0.runes_Rune, .int .i64 p0.runes_Need, .slice Ap0_1 (p0.out).length cp0_1]) w o Lp0) (Lp0_0 : Nat) (hp0_0 : Ft (Own (encInt .i64) 3 (.slice Ap0_0 (p0.order_nums).length cp0_0) p0.order_nums) w o Lp0_0) (hcp0_0 : (p0.order_nums).length ≤ cp0_0) (Lp0_1 : Nat) (hp0_1 : NOwn dT37 38 Ap0_1 cp0_1 p0.out w o Lp0_1 LF) (hcp0_1 : (p0.out).length ≤ cp0_1) (hp1_0 : Ft (RdC (encInt .i64) Ap1_0 p1.Nums) w o LF) (hcp1_0 : (p1.Nums).length ≤ cp1_0) (hd0 : ([LF, Lp0, Lp0_0, Lp0_1] : List Nat).Nodup) (r : T30) (H : seq_Parser_tell_ofown p0 p1 = some r) :
    Calls Tryd.prog 35 #[.pointer (some ⟨bp0, 0, none⟩), .agg #[.int .i64 p1.Kind, .int .i32 p1.Rune, .int .u8 p1.Byte, .bool p1.Private, .slice Ap1_0 (p1.Nums).length cp1_0, .string p1.Text]] w (Ret fun v_ w' => ∃ o' : Nat → Nat, ∃ A0 : Option Addr, ∃ c0 : Nat, ∃ A1 : Option Addr, ∃ c1 : Nat, v_ = .tuple #[] ∧ St [Lp0, Lp0_0, Lp0_1] w o w' o' ∧ Ft (Bx bp0 31 [.int .i64 r.state, .bool r.order_private_, .bool r.order_wrong, .bool r.order_any, .bool r.order_some, .int .i64 r.order_n, .slice A0 (r.order_nums).length c0, .string r.text, .int .u8 r.runes_Lead, .int .i32 r.runes_Rune, .int .i64 r.runes_Need, .slice A1 (r.out).length c1]) w' o' Lp0 ∧ Ft (Own (encInt .i64) 3 (.slice A0 (r.order_nums).length c0) r.order_nums) w' o' Lp0_0 ∧ (r.order_nums).length ≤ c0 ∧ NOwn dT37 38 A1 c1 r.out w' o' Lp0_1 LF ∧ (r.out).length ≤ c1) := by
  refine x_enter (vs := [.pointer (some ⟨bp0, 0, none⟩), .agg #[.int .i64 p1.Kind, .int .i32 p1.Rune, .int .u8 p1.Byte, .bool p1.Private, .slice Ap1_0 (p1.Nums).length cp1_0, .string p1.Text]]) Tryd.func35 rfl rfl rfl fun a hk => ?_
  obtain ⟨oi, hs0, h0, h1, hob, hoz, hoa⟩ := St.startM2 w o (m := 4) hd0 rfl
  have hs := hs0 [2, 3, 4]
  have f900000 := h1 2 3 hp0_0 rfl rfl
  have f900001 := hp0_1.conv (fun _ h_ => h1 3 4 h_ rfl rfl) (fun _ h_ => h1 0 1 h_ rfl rfl)
  have f900019 := h1 1 2 hp0 rfl rfl
  have f900020 := h1 0 1 hp1_0 rfl rfl
  clear h0 h1 hs0
  rw [seq_Parser_tell_ofown] at H
  refine x_seq ?_
  refine wpIn_region_lit ?_
  refine x_op hk rfl ?_
  refine op_box (o := oi) (t := 38) (v := .agg #[.int .i64 p1.Kind, .int .i32 p1.Rune, .int .u8 p1.Byte, .bool p1.Private, .slice Ap1_0 (p1.Nums).length cp1_0, .string p1.Text]) (cs := [.int .i64 p1.Kind, .int .i32 p1.Rune, .int .u8 p1.Byte, .bool p1.Private, .slice Ap1_0 (p1.Nums).length cp1_0, .string p1.Text]) hk rfl rfl 5 fun bx4 w1 o2 st3 f5 => ?_
  replace f900000 := f900000.st st3 (by decide)
  replace f900001 := f900001.st st3 (by decide)
  replace f900019 := f900019.st st3 (by decide)
  replace f900020 := f900020.st st3 (by decide)
  replace hs := hs.locQ st3 hob rfl
  have hk := hk.put 3 (.pointer (some ⟨bx4, 0, none⟩)) rfl
  refine wpListIn_nil ?_
  refine then_n ?_
  refine x_cut (fun a_ w_ => ∃ o154 : Nat → Nat, ∃ A155 : Option Addr, ∃ c156 : Nat, Kn 14 a_ [] ∧ St [2, 3, 4] w oi w_ o154 ∧ NOwn dT37 38 A155 c156 (p0.out ++ ([p1] : List T37)) w_ o154 4 1 ∧ Ft (Own (encInt .i64) 3 (.slice Ap0_0 (p0.order_nums).length cp0_0) p0.order_nums) w_ o154 3 ∧ Ft (Bx bp0 31 [.int .i64 p0.state, .bool p0.order_private_, .bool p0.order_wrong, .bool p0.order_any, .bool p0.order_some, .int .i64 p0.order_n, .slice Ap0_0 (p0.order_nums).length cp0_0, .string p0.text, .int .u8 p0.runes_Lead, .int .i32 p0.runes_Rune, .int .i64 p0.runes_Need, .slice A155 ((p0.out ++ ([p1] : List T37))).length c156]) w_ o154 2 ∧ ((p0.out ++ ([p1] : List T37))).length ≤ c156 ∧ seq_Parser_tell_ofown_j1 p0 p1 = some r) ?_ ?_
  rotate_left
  · rintro a w159 ⟨o154, A155, c156, hk, hs, f157, f900000, f900019, hc158, H⟩
    rw [seq_Parser_tell_ofown_j1] at H
    obtain rfl := Option.some.inj H
    exact x_endG hk (rs := []) (vs := []) rfl trivial ⟨cl w oi o [2, 3, 4] (fun l_ => if l_ = 1 then LF else if l_ = 2 then Lp0 else if l_ = 3 then Lp0_0 else if l_ = 4 then Lp0_1 else 0) o154, Ap0_0, cp0_0, A155, c156, rfl, hs.closeF (Lm := [Lp0, Lp0_0, Lp0_1]) (Sh := []) hoa rfl (fun l_ => if l_ = 1 then LF else if l_ = 2 then Lp0 else if l_ = 3 then Lp0_0 else if l_ = 4 then Lp0_1 else 0), hs.closeM_ft (o := o) (ρ := fun l_ => if l_ = 1 then LF else if l_ = 2 then Lp0 else if l_ = 3 then Lp0_0 else if l_ = 4 then Lp0_1 else 0) f900019 (lab_at hoa (i := 1) rfl) rfl, hs.closeM_ft (o := o) (ρ := fun l_ => if l_ = 1 then LF else if l_ = 2 then Lp0 else if l_ = 3 then Lp0_0 else if l_ = 4 then Lp0_1 else 0) f900000 (lab_at hoa (i := 2) rfl) rfl, hcp0_0, f157.conv (fun _ h_ => hs.closeM_ft (o := o) (ρ := fun l_ => if l_ = 1 then LF else if l_ = 2 then Lp0 else if l_ = 3 then Lp0_0 else if l_ = 4 then Lp0_1 else 0) h_ (lab_at hoa (i := 3) rfl) rfl) (fun _ h_ => hs.closeM_ft (o := o) (ρ := fun l_ => if l_ = 1 then LF else if l_ = 2 then Lp0 else if l_ = 3 then Lp0_0 else if l_ = 4 then Lp0_1 else 0) h_ (lab_at hoa (i := 0) rfl) rfl), hc158⟩
  obtain ⟨q186, H⟩ := ifS H
  refine xd_begin (o := o2) (fun W_ => (Bx bx4 38 [.int .i64 p1.Kind, .int .i32 p1.Rune, .int .u8 p1.Byte, .bool p1.Private, .slice Ap1_0 (p1.Nums).length cp1_0, .string p1.Text]) W_ ∧ True) mixed rfl rfl fun w226 st227 => ?_
  replace f5 := f5.st st227 (by decide)
  replace f900000 := f900000.st st227 (by decide)
  replace f900001 := f900001.st st227 (by decide)
  replace f900019 := f900019.st st227 (by decide)
  replace f900020 := f900020.st st227 (by decide)
  replace hs := hs.locQ st227 hob rfl
  refine xd_abs fun G hG => ?_
  have N233 : ∀ (a_ : Act) (w_ : World), (∃ o231 : Nat → Nat, Kn 14 a_ [(4, .pointer (some ⟨bp0, 0, none⟩)), (8, .slice Ap0_1 (p0.out).length cp0_1), (9, .agg #[.int .i64 p1.Kind, .int .i32 p1.Rune, .int .u8 p1.Byte, .bool p1.Private, .slice Ap1_0 (p1.Nums).length cp1_0, .string p1.Text])] ∧ St [2, 3, 4] w oi w_ o231 ∧ Ft (Bx bx4 38 [.int .i64 p1.Kind, .int .i32 p1.Rune, .int .u8 p1.Byte, .bool p1.Private, .slice Ap1_0 (p1.Nums).length cp1_0, .string p1.Text]) w_ o231 20 ∧ Ft (Own (encInt .i64) 3 (.slice Ap0_0 (p0.order_nums).length cp0_0) p0.order_nums) w_ o231 3 ∧ NOwn dT37 38 Ap0_1 cp0_1 p0.out w_ o231 4 1 ∧ Ft (Bx bp0 31 [.int .i64 p0.state, .bool p0.order_private_, .bool p0.order_wrong, .bool p0.order_any, .bool p0.order_some, .int .i64 p0.order_n, .slice Ap0_0 (p0.order_nums).length cp0_0, .string p0.text, .int .u8 p0.runes_Lead, .int .i32 p0.runes_Rune, .int .i64 p0.runes_Need, .slice Ap0_1 (p0.out).length cp0_1]) w_ o231 2 ∧ Ft (RdC (encInt .i64) Ap1_0 p1.Nums) w_ o231 1) → G 5 #[true, true, true, true, true, true, false, false, false, false, false] a_ w_ := by
    rintro a w232 ⟨o231, hk, hs, f5, f900000, f900001, f900019, f900020⟩
    refine xd_of hG ?_
    refine xd_op hk (i := 6) (by kernel_rfl) rfl rfl ?_
    refine op_slice (o := o231) tab hk (vs := [.agg #[.int .i64 p1.Kind, .int .i32 p1.Rune, .int .u8 p1.Byte, .bool p1.Private, .slice Ap1_0 (p1.Nums).length cp1_0, .string p1.Text]]) (cs := [.int .i64 p1.Kind, .int .i32 p1.Rune, .int .u8 p1.Byte, .bool p1.Private, .slice Ap1_0 (p1.Nums).length cp1_0, .string p1.Text]) rfl rfl rfl rfl rfl rfl rfl rfl rfl 21 fun bx237 w234 o235 st236 f238 => ?_
    replace f5 := f5.st st236 (by decide)
    replace f900000 := f900000.st st236 (by decide)
    replace f900001 := f900001.st st236 (by decide)
    replace f900019 := f900019.st st236 (by decide)
    replace f900020 := f900020.st st236 (by decide)
    replace hs := hs.locQ st236 hob rfl
    have f239 : NOwn dT37 38 (some ⟨bx237, 0, none⟩) 1 ([p1] : List T37) w234 o235 21 1 := NOwn.litD (D := dT37) f238 [(⟨p1, Ap1_0, cp1_0⟩ : NT37)] rfl (Inn.consD (D := dT37) (r := (⟨p1, Ap1_0, cp1_0⟩ : NT37)) (f900020.imp fun _ h_ => ⟨h_, hcp1_0⟩) (Inn.nilD _ _ _ _)) rfl (Nat.le_of_ble_eq_true rfl)
    have hk := hk.put 10 (.slice (some ⟨bx237, 0, none⟩) (([p1] : List T37)).length 1) rfl
    refine ⟨.inr ⟨f5.now, trivial⟩, ?_⟩
    refine xd_op hk (i := 7) (by kernel_rfl) rfl rfl ?_
    refine op_appendN (o := o235) (D := dT37) (xs := p0.out) (ys := ([p1] : List T37)) tab hk rfl rfl rfl rfl rfl rfl rfl f900001 f239.rd (by decide) q186 fun A243 c244 w240 o241 st242 f245 hc246 => ?_
    replace f239 := f239.st st242 (by decide)
    replace f5 := f5.st st242 (by decide)
    replace f900000 := f900000.st st242 (by decide)
    replace f900019 := f900019.st st242 (by decide)
    replace f900020 := f900020.st st242 (by decide)
    replace hs := hs.locQ st242 hob rfl
    have hk := hk.put 11 (.slice A243 ((p0.out ++ ([p1] : List T37))).length c244) rfl
    refine ⟨.inr ⟨f5.now, trivial⟩, ?_⟩
    refine xd_take tab hk (k := 1) (is := [8, 9]) (ls' := #[true, true, true, true, true, true, true, true, true, true, false]) (lv := []) (ks := [11, 13]) (e' := [(11, .slice A243 ((p0.out ++ ([p1] : List T37))).length c244), (13, .pointer (some ((⟨bp0, 0, none⟩ : Addr).add 11)))]) (by kernel_rfl) rfl rfl (by kernel_rfl) (np_then np_body) ⟨f5.now, trivial⟩ (fun W_ hS => trivial) fun a hk => ?_
    refine xd_op hk (i := 10) (by kernel_rfl) rfl rfl ?_
    refine op_store tab hk (t := 29) (v := .slice A243 ((p0.out ++ ([p1] : List T37))).length c244) (b := bp0) (k := 11) (cs' := [.int .i64 p0.state, .bool p0.order_private_, .bool p0.order_wrong, .bool p0.order_any, .bool p0.order_some, .int .i64 p0.order_n, .slice Ap0_0 (p0.order_nums).length cp0_0, .string p0.text, .int .u8 p0.runes_Lead, .int .i32 p0.runes_Rune, .int .i64 p0.runes_Need, .slice A243 ((p0.out ++ ([p1] : List T37))).length c244]) rfl rfl rfl rfl rfl rfl f900019 rfl rfl fun w247 o248 st249 f900019_ => ?_
    replace f239 := f239.st st249 (by decide)
    replace f245 := f245.st st249 (by decide)
    replace f5 := f5.st st249 (by decide)
    replace f900000 := f900000.st st249 (by decide)
    replace f900020 := f900020.st st249 (by decide)
    replace hs := hs.locQ st249 hob rfl
    replace f900019 := f900019_
    refine ⟨.inr ⟨f5.now, trivial⟩, ?_⟩
    refine xd_done (by kernel_rfl) ?_
    refine then_n ?_
    exact ⟨o248, A243, c244, (by exact Kn.pick (ks := []) hk rfl), hs, f245, f900000, f900019, hc246, H⟩
  have N271 : ∀ (a_ : Act) (w_ : World), (∃ o265 : Nat → Nat, ∃ A266 : Option Addr, ∃ c267 : Nat, Kn 14 a_ [(4, .pointer (some ⟨bp0, 0, none⟩)), (7, .pointer (some ((⟨bp0, 0, none⟩ : Addr).add 11))), (10, .slice A266 (([p1] : List T37)).length c267)] ∧ St [2, 3, 4] w oi w_ o265 ∧ NOwn dT37 38 A266 c267 ([p1] : List T37) w_ o265 24 1 ∧ Ft (Bx bx4 38 [.int .i64 p1.Kind, .int .i32 p1.Rune, .int .u8 p1.Byte, .bool p1.Private, .slice Ap1_0 (p1.Nums).length cp1_0, .string p1.Text]) w_ o265 23 ∧ Ft (Own (encInt .i64) 3 (.slice Ap0_0 (p0.order_nums).length cp0_0) p0.order_nums) w_ o265 3 ∧ NOwn dT37 38 Ap0_1 cp0_1 p0.out w_ o265 4 1 ∧ Ft (Bx bp0 31 [.int .i64 p0.state, .bool p0.order_private_, .bool p0.order_wrong, .bool p0.order_any, .bool p0.order_some, .int .i64 p0.order_n, .slice Ap0_0 (p0.order_nums).length cp0_0, .string p0.text, .int .u8 p0.runes_Lead, .int .i32 p0.runes_Rune, .int .i64 p0.runes_Need, .slice Ap0_1 (p0.out).length cp0_1]) w_ o265 2 ∧ Ft (RdC (encInt .i64) Ap1_0 p1.Nums) w_ o265 1 ∧ (([p1] : List T37)).length ≤ c267) → G 5 #[true, true, true, true, false, true, true, false, false, false, false] a_ w_ := by
    rintro a w270 ⟨o265, A266, c267, hk, hs, f268, f5, f900000, f900001, f900019, f900020, hc269⟩
    refine xd_of hG ?_
    refine xd_op hk (i := 4) (by kernel_rfl) rfl rfl ?_
    refine op_quiet tab hk (lv := [.slice Ap0_1 (p0.out).length cp0_1]) (v := .slice Ap0_1 (p0.out).length cp0_1) rfl ⟨(load1 tab rfl ((Bx.cell f900019.now 11).trans rfl)), trivial⟩ ?_
    have hk := hk.put 8 (.slice Ap0_1 (p0.out).length cp0_1) rfl
    refine ⟨.inr ⟨f5.now, trivial⟩, ?_⟩
    refine xd_op hk (i := 7) (by kernel_rfl) rfl rfl ?_
    refine op_appendN (o := o265) (D := dT37) (xs := p0.out) (ys := ([p1] : List T37)) tab hk rfl rfl rfl rfl rfl rfl rfl f900001 f268.rd (by decide) q186 fun A275 c276 w272 o273 st274 f277 hc278 => ?_
    replace f268 := f268.st st274 (by decide)
    replace f5 := f5.st st274 (by decide)
    replace f900000 := f900000.st st274 (by decide)
    replace f900019 := f900019.st st274 (by decide)
    replace f900020 := f900020.st st274 (by decide)
    replace hs := hs.locQ st274 hob rfl
    have hk := hk.put 11 (.slice A275 ((p0.out ++ ([p1] : List T37))).length c276) rfl
    refine ⟨.inr ⟨f5.now, trivial⟩, ?_⟩
    refine xd_take tab hk (k := 1) (is := [8, 9]) (ls' := #[true, true, true, true, true, true, true, true, true, true, false]) (lv := []) (ks := [11, 13]) (e' := [(11, .slice A275 ((p0.out ++ ([p1] : List T37))).length c276), (13, .pointer (some ((⟨bp0, 0, none⟩ : Addr).add 11)))]) (by kernel_rfl) rfl rfl (by kernel_rfl) (np_then np_body) ⟨f5.now, trivial⟩ (fun W_ hS => trivial) fun a hk => ?_
    refine xd_op hk (i := 10) (by kernel_rfl) rfl rfl ?_
    refine op_store tab hk (t := 29) (v := .slice A275 ((p0.out ++ ([p1] : List T37))).length c276) (b := bp0) (k := 11) (cs' := [.int .i64 p0.state, .bool p0.order_private_, .bool p0.order_wrong, .bool p0.order_any, .bool p0.order_some, .int .i64 p0.order_n, .slice Ap0_0 (p0.order_nums).length cp0_0, .string p0.text, .int .u8 p0.runes_Lead, .int .i32 p0.runes_Rune, .int .i64 p0.runes_Need, .slice A275 ((p0.out ++ ([p1] : List T37))).length c276]) rfl rfl rfl rfl rfl rfl f900019 rfl rfl fun w279 o280 st281 f900019_ => ?_
    replace f268 := f268.st st281 (by decide)
    replace f277 := f277.st st281 (by decide)
    replace f5 := f5.st st281 (by decide)
    replace f900000 := f900000.st st281 (by decide)
    replace f900020 := f900020.st st281 (by decide)
    replace hs := hs.locQ st281 hob rfl
    replace f900019 := f900019_
    refine ⟨.inr ⟨f5.now, trivial⟩, ?_⟩
    refine xd_done (by kernel_rfl) ?_
    refine then_n ?_
    exact ⟨o280, A275, c276, (by exact Kn.pick (ks := []) hk rfl), hs, f277, f900000, f900019, hc278, H⟩
  refine xd_of hG ?_
  refine xd_take tab hk (k := 6) (is := [0, 1, 2, 3, 5]) (ls' := #[true, true, true, true, false, true, false, false, false, false, false]) (lv := [.agg #[.int .i64 p1.Kind, .int .i32 p1.Rune, .int .u8 p1.Byte, .bool p1.Private, .slice Ap1_0 (p1.Nums).length cp1_0, .string p1.Text]]) (ks := [4, 7, 9]) (e' := [(4, .pointer (some ⟨bp0, 0, none⟩)), (7, .pointer (some ((⟨bp0, 0, none⟩ : Addr).add 11))), (9, .agg #[.int .i64 p1.Kind, .int .i32 p1.Rune, .int .u8 p1.Byte, .bool p1.Private, .slice Ap1_0 (p1.Nums).length cp1_0, .string p1.Text])]) (by kernel_rfl) rfl rfl (by kernel_rfl) (np_then np_body) ⟨f5.now, trivial⟩ (fun W_ hS => ⟨(load_box tab rfl rfl hS.1 (k := 0) rfl rfl), trivial⟩) fun a hk => ?_
  refine xd_each [4, 6] (by kernel_rfl) rfl ⟨?_, ?_, trivial⟩
  · refine xd_one hk rfl rfl ?_
    refine op_quiet tab hk (lv := [.slice Ap0_1 (p0.out).length cp0_1]) (v := .slice Ap0_1 (p0.out).length cp0_1) rfl ⟨(load1 tab rfl ((Bx.cell f900019.now 11).trans rfl)), trivial⟩ ?_
    have hk := hk.put 8 (.slice Ap0_1 (p0.out).length cp0_1) rfl
    refine ⟨.inr ⟨f5.now, trivial⟩, ?_⟩
    exact xd_to hG rfl (N233 _ _ ⟨(fun b_ => (fun l_ => if l_ = 5 then 20 else l_) (o2 b_)), (by exact Kn.pick (ks := [4, 8, 9]) hk rfl), (hs.relabM hob (fun l_ => if l_ = 5 then 20 else l_) (by decide)), (f5.relab (fun l_ => if l_ = 5 then 20 else l_) rfl), (f900000.relab (fun l_ => if l_ = 5 then 20 else l_) rfl), (f900001.relab (fun l_ => if l_ = 5 then 20 else l_) rfl), (f900019.relab (fun l_ => if l_ = 5 then 20 else l_) rfl), (f900020.relab (fun l_ => if l_ = 5 then 20 else l_) rfl)⟩)
  · refine xd_one hk rfl rfl ?_
    refine op_slice (o := o2) tab hk (vs := [.agg #[.int .i64 p1.Kind, .int .i32 p1.Rune, .int .u8 p1.Byte, .bool p1.Private, .slice Ap1_0 (p1.Nums).length cp1_0, .string p1.Text]]) (cs := [.int .i64 p1.Kind, .int .i32 p1.Rune, .int .u8 p1.Byte, .bool p1.Private, .slice Ap1_0 (p1.Nums).length cp1_0, .string p1.Text]) rfl rfl rfl rfl rfl rfl rfl rfl rfl 22 fun bx253 w250 o251 st252 f254 => ?_
    replace f5 := f5.st st252 (by decide)
    replace f900000 := f900000.st st252 (by decide)
    replace f900001 := f900001.st st252 (by decide)
    replace f900019 := f900019.st st252 (by decide)
    replace f900020 := f900020.st st252 (by decide)
    replace hs := hs.locQ st252 hob rfl
    have f255 : NOwn dT37 38 (some ⟨bx253, 0, none⟩) 1 ([p1] : List T37) w250 o251 22 1 := NOwn.litD (D := dT37) f254 [(⟨p1, Ap1_0, cp1_0⟩ : NT37)] rfl (Inn.consD (D := dT37) (r := (⟨p1, Ap1_0, cp1_0⟩ : NT37)) (f900020.imp fun _ h_ => ⟨h_, hcp1_0⟩) (Inn.nilD _ _ _ _)) rfl (Nat.le_of_ble_eq_true rfl)
    have hk := hk.put 10 (.slice (some ⟨bx253, 0, none⟩) (([p1] : List T37)).length 1) rfl
    refine ⟨.inr ⟨f5.now, trivial⟩, ?_⟩
    exact xd_to hG rfl (N271 _ _ ⟨(fun b_ => (fun l_ => if l_ = 5 then 23 else if l_ = 22 then 24 else l_) (o251 b_)), (some ⟨bx253, 0, none⟩), 1, (by exact Kn.pick (ks := [4, 7, 10]) hk rfl), (hs.relabM hob (fun l_ => if l_ = 5 then 23 else if l_ = 22 then 24 else l_) (by decide)), (f255.relab (fun l_ => if l_ = 5 then 23 else if l_ = 22 then 24 else l_) rfl), (f5.relab (fun l_ => if l_ = 5 then 23 else if l_ = 22 then 24 else l_) rfl), (f900000.relab (fun l_ => if l_ = 5 then 23 else if l_ = 22 then 24 else l_) rfl), (f900001.relab (fun l_ => if l_ = 5 then 23 else if l_ = 22 then 24 else l_) rfl), (f900019.relab (fun l_ => if l_ = 5 then 23 else if l_ = 22 then 24 else l_) rfl), (f900020.relab (fun l_ => if l_ = 5 then 23 else if l_ = 22 then 24 else l_) rfl), (Nat.le_refl _)⟩)

/-! (*tidewrack/seq.Parser).common -/
theorem seq_Parser_common_ofown_calls (bp0 : Nat) (Ap0_0 : Option Addr) (cp0_0 : Nat) (Ap0_1 : Option Addr) (cp0_1 : Nat) (p0 : T30) (p1 : Int) (w : World) (o : Nat → Nat) (LF : Nat) (Lp0 : Nat) (hp0 : Ft (Bx bp0 31 [.int .i64 p0.state, .bool p0.order_private_, .bool p0.order_wrong, .bool p0.order_any, .bool p0.order_some, .int .i64 p0.order_n, .slice Ap0_0 (p0.order_nums).length cp0_0, .string p0.text, .int .u8 p0.runes_Lead, .int .i32 p0.runes_Rune, .int .i64 p0.runes_Need, .slice Ap0_1 (p0.out).length cp0_1]) w o Lp0) (Lp0_0 : Nat) (hp0_0 : Ft (Own (encInt .i64) 3 (.slice Ap0_0 (p0.order_nums).length cp0_0) p0.order_nums) w o Lp0_0) (hcp0_0 : (p0.order_nums).length ≤ cp0_0) (Lp0_1 : Nat) (hp0_1 : NOwn dT37 38 Ap0_1 cp0_1 p0.out w o Lp0_1 LF) (hcp0_1 : (p0.out).length ≤ cp0_1) (hd0 : ([LF, Lp0, Lp0_0, Lp0_1] : List Nat).Nodup) (r : Bool × T30) (H : seq_Parser_common_ofown p0 p1 = some r) :
    Calls Tryd.prog 33 #[.pointer (some ⟨bp0, 0, none⟩), .int .u8 p1] w (Ret fun v_ w' => ∃ o' : Nat → Nat, ∃ A0 : Option Addr, ∃ c0 : Nat, ∃ A1 : Option Addr, ∃ c1 : Nat, v_ = .bool r.1 ∧ St [Lp0, Lp0_0, Lp0_1] w o w' o' ∧ Ft (Bx bp0 31 [.int .i64 r.2.state, .bool r.2.order_private_, .bool r.2.order_wrong, .bool r.2.order_any, .bool r.2.order_some, .int .i64 r.2.order_n, .slice A0 (r.2.order_nums).length c0, .string r.2.text, .int .u8 r.2.runes_Lead, .int .i32 r.2.runes_Rune, .int .i64 r.2.runes_Need, .slice A1 (r.2.out).length c1]) w' o' Lp0 ∧ Ft (Own (encInt .i64) 3 (.slice A0 (r.2.order_nums).length c0) r.2.order_nums) w' o' Lp0_0 ∧ (r.2.order_nums).length ≤ c0 ∧ NOwn dT37 38 A1 c1 r.2.out w' o' Lp0_1 LF ∧ (r.2.out).length ≤ c1) := by
  refine x_enter (vs := [.pointer (some ⟨bp0, 0, none⟩), .int .u8 p1]) Tryd.func33 rfl rfl rfl fun a hk => ?_
  obtain ⟨oi, hs0, h0, h1, hob, hoz, hoa⟩ := St.startM2 w o (m := 4) hd0 rfl
  have hs := hs0 [2, 3, 4]
  have f900000 := h1 2 3 hp0_0 rfl rfl
  have f900001 := hp0_1.conv (fun _ h_ => h1 3 4 h_ rfl rfl) (fun _ h_ => h1 0 1 h_ rfl rfl)
  have f900019 := h1 1 2 hp0 rfl rfl
  clear h0 h1 hs0
  rw [seq_Parser_common_ofown] at H
  refine x_seq ?_
  refine wpIn_region_lit ?_
  refine x_run tab hk (k := 1) (lv := []) (ks := [0, 1]) (e' := [(0, .pointer (some ⟨bp0, 0, none⟩)), (1, .int .u8 p1)]) rfl trivial fun a hk => ?_
  refine wpListIn_nil ?_
  refine then_n ?_
  refine x_seq ?_
  refine wpIn_block ?_
  refine x_mid (fun a_ w_ => ∃ o8 : Nat → Nat, ∃ x9 : Bool, Kn 30 a_ [(0, .pointer (some ⟨bp0, 0, none⟩)), (1, .int .u8 p1), (7, .bool x9)] ∧ St [2, 3, 4] w oi w_ o8 ∧ Ft (Own (encInt .i64) 3 (.slice Ap0_0 (p0.order_nums).length cp0_0) p0.order_nums) w_ o8 3 ∧ NOwn dT37 38 Ap0_1 cp0_1 p0.out w_ o8 4 1 ∧ Ft (Bx bp0 31 [.int .i64 p0.state, .bool p0.order_private_, .bool p0.order_wrong, .bool p0.order_any, .bool p0.order_some, .int .i64 p0.order_n, .slice Ap0_0 (p0.order_nums).length cp0_0, .string p0.text, .int .u8 p0.runes_Lead, .int .i32 p0.runes_Rune, .int .i64 p0.runes_Need, .slice Ap0_1 (p0.out).length cp0_1]) w_ o8 2 ∧ seq_Parser_common_ofown_j1 p0 p1 x9 = some r) ?_ ?_
  rotate_left
  · rintro a w10 ⟨o8, x9, hk, hs, f900000, f900001, f900019, H⟩
    rw [seq_Parser_common_ofown_j1] at H
    cases b11 : x9
    · rw [b11] at hk H
      replace H := bifF H
      refine x_if hk (b := false) rfl ?_
      refine (show Code.wpIn _ _ _ _ _ _ _ from ?_)
      refine x_seq ?_
      refine wpIn_region_lit ?_
      refine x_run tab hk (k := 3) (lv := []) (ks := [0, 1, 17]) (e' := [(0, .pointer (some ⟨bp0, 0, none⟩)), (1, .int .u8 p1), (17, .bool (p1 == (27 : Int)))]) rfl trivial fun a hk => ?_
      refine wpListIn_nil ?_
      refine then_n ?_
      cases b12 : (p1 == (27 : Int))
      · rw [b12] at hk H
        replace H := bifF H
        refine x_if hk (b := false) rfl ?_
        refine (show Code.wpIn _ _ _ _ _ _ _ from ?_)
        refine x_seq ?_
        refine wpIn_region_lit ?_
        refine x_run tab hk (k := 3) (lv := []) (ks := [0, 1, 23]) (e' := [(0, .pointer (some ⟨bp0, 0, none⟩)), (1, .int .u8 p1), (23, .bool (decide (p1 < (32 : Int))))]) rfl trivial fun a hk => ?_
        refine wpListIn_nil ?_
        refine then_n ?_
        cases b13 : (decide (p1 < (32 : Int)))
        · rw [b13] at hk H
          replace H := bifF H
          refine x_if hk (b := false) rfl ?_
          refine (show Code.wpIn _ _ _ _ _ _ _ from ?_)
          refine x_seq ?_
          refine wpIn_region_lit ?_
          refine x_run tab hk (k := 3) (lv := []) (ks := [4]) (e' := [(4, .bool (p1 == (127 : Int)))]) rfl trivial fun a hk => ?_
          refine wpListIn_nil ?_
          refine then_n ?_
          refine wpIn_ret ?_
          refine blk_r ?_
          refine then_r ?_
          obtain rfl := Option.some.inj H
          exact x_retG hk (rs := [.tmp 4]) (vs := [.bool (p1 == (127 : Int))]) rfl ⟨rfl, trivial⟩ ⟨cl w oi o [2, 3, 4] (fun l_ => if l_ = 1 then LF else if l_ = 2 then Lp0 else if l_ = 3 then Lp0_0 else if l_ = 4 then Lp0_1 else 0) o8, Ap0_0, cp0_0, Ap0_1, cp0_1, rfl, hs.closeF (Lm := [Lp0, Lp0_0, Lp0_1]) (Sh := []) hoa rfl (fun l_ => if l_ = 1 then LF else if l_ = 2 then Lp0 else if l_ = 3 then Lp0_0 else if l_ = 4 then Lp0_1 else 0), hs.closeM_ft (o := o) (ρ := fun l_ => if l_ = 1 then LF else if l_ = 2 then Lp0 else if l_ = 3 then Lp0_0 else if l_ = 4 then Lp0_1 else 0) f900019 (lab_at hoa (i := 1) rfl) rfl, hs.closeM_ft (o := o) (ρ := fun l_ => if l_ = 1 then LF else if l_ = 2 then Lp0 else if l_ = 3 then Lp0_0 else if l_ = 4 then Lp0_1 else 0) f900000 (lab_at hoa (i := 2) rfl) rfl, hcp0_0, f900001.conv (fun _ h_ => hs.closeM_ft (o := o) (ρ := fun l_ => if l_ = 1 then LF else if l_ = 2 then Lp0 else if l_ = 3 then Lp0_0 else if l_ = 4 then Lp0_1 else 0) h_ (lab_at hoa (i := 3) rfl) rfl) (fun _ h_ => hs.closeM_ft (o := o) (ρ := fun l_ => if l_ = 1 then LF else if l_ = 2 then Lp0 else if l_ = 3 then Lp0_0 else if l_ = 4 then Lp0_1 else 0) h_ (lab_at hoa (i := 0) rfl) rfl), hcp0_1⟩
        · rw [b13] at hk H
          replace H := bifT H
          refine x_if hk (b := true) rfl ?_
          refine (show Code.wpIn _ _ _ _ _ _ _ from ?_)
          refine wpIn_region_lit ?_
          refine x_run tab hk (k := 3) (lv := []) (ks := [26, 28]) (e' := [(26, .pointer (some ⟨bp0, 0, none⟩)), (28, .agg #[.int .i64 2, .int .i32 0, .int .u8 p1, .bool false, .slice none 0 0, .string (⟨#[]⟩ : ByteArray)])]) rfl trivial fun a hk => ?_
          refine x_op hk rfl ?_
          obtain ⟨t17, hc18, H⟩ := bindS H
          refine op_call hk ent_35 (vs := [.pointer (some ⟨bp0, 0, none⟩), .agg #[.int .i64 2, .int .i32 0, .int .u8 p1, .bool false, .slice none 0 0, .string (⟨#[]⟩ : ByteArray)]]) rfl (seq_Parser_tell_ofown_calls bp0 Ap0_0 cp0_0 Ap0_1 cp0_1 p0 none 0 (⟨2, 0, p1, false, ([] : List Int), (⟨#[]⟩ : ByteArray)⟩ : T37) _ o8 1 2 f900019 3 f900000 hcp0_0 4 f900001 hcp0_1 (Ft.of_all (fun _ => RdC.nilr _ _ _) _ _ _) (Nat.le_refl _) (by decide)   _ hc18) ?_
          rintro _ w19 ⟨o20, A23, c24, A27, c28, rfl, st21, f22, f25, hc26, f29, hc30⟩
          replace hs := hs.locQ st21 hob rfl
          have hk := hk.put 29 (.tuple #[]) rfl
          refine wpListIn_nil ?_
          refine blk_n ?_
          refine then_n ?_
          refine x_seq ?_
          refine wpIn_region_lit ?_
          refine x_run tab hk (k := 1) (lv := []) (ks := [4]) (e' := [(4, .bool true)]) rfl trivial fun a hk => ?_
          refine wpListIn_nil ?_
          refine then_n ?_
          refine wpIn_ret ?_
          obtain rfl := Option.some.inj H
          exact x_retG hk (rs := [.tmp 4]) (vs := [.bool true]) rfl ⟨rfl, trivial⟩ ⟨cl w oi o [2, 3, 4] (fun l_ => if l_ = 1 then LF else if l_ = 2 then Lp0 else if l_ = 3 then Lp0_0 else if l_ = 4 then Lp0_1 else 0) o20, A23, c24, A27, c28, rfl, hs.closeF (Lm := [Lp0, Lp0_0, Lp0_1]) (Sh := []) hoa rfl (fun l_ => if l_ = 1 then LF else if l_ = 2 then Lp0 else if l_ = 3 then Lp0_0 else if l_ = 4 then Lp0_1 else 0), hs.closeM_ft (o := o) (ρ := fun l_ => if l_ = 1 then LF else if l_ = 2 then Lp0 else if l_ = 3 then Lp0_0 else if l_ = 4 then Lp0_1 else 0) f22 (lab_at hoa (i := 1) rfl) rfl, hs.closeM_ft (o := o) (ρ := fun l_ => if l_ = 1 then LF else if l_ = 2 then Lp0 else if l_ = 3 then Lp0_0 else if l_ = 4 then Lp0_1 else 0) f25 (lab_at hoa (i := 2) rfl) rfl, hc26, f29.conv (fun _ h_ => hs.closeM_ft (o := o) (ρ := fun l_ => if l_ = 1 then LF else if l_ = 2 then Lp0 else if l_ = 3 then Lp0_0 else if l_ = 4 then Lp0_1 else 0) h_ (lab_at hoa (i := 3) rfl) rfl) (fun _ h_ => hs.closeM_ft (o := o) (ρ := fun l_ => if l_ = 1 then LF else if l_ = 2 then Lp0 else if l_ = 3 then Lp0_0 else if l_ = 4 then Lp0_1 else 0) h_ (lab_at hoa (i := 0) rfl) rfl), hc30⟩
      · rw [b12] at hk H
        replace H := bifT H
        refine x_if hk (b := true) rfl ?_
        refine (show Code.wpIn _ _ _ _ _ _ _ from ?_)
        refine wpIn_region_lit ?_
        refine x_run tab hk (k := 3) (lv := []) (ks := [22]) (e' := [(22, .pointer (some ⟨bp0, 0, none⟩))]) rfl trivial fun a hk => ?_
        refine x_op hk rfl ?_
        refine op_store tab hk (t := 3) (v := .int .i64 1) (b := bp0) (k := 0) (cs' := [.int .i64 1, .bool p0.order_private_, .bool p0.order_wrong, .bool p0.order_any, .bool p0.order_some, .int .i64 p0.order_n, .slice Ap0_0 (p0.order_nums).length cp0_0, .string p0.text, .int .u8 p0.runes_Lead, .int .i32 p0.runes_Rune, .int .i64 p0.runes_Need, .slice Ap0_1 (p0.out).length cp0_1]) rfl rfl rfl rfl rfl rfl f900019 rfl rfl fun w31 o32 st33 f900019_ => ?_
        replace f900000 := f900000.st st33 (by decide)
        replace f900001 := f900001.st st33 (by decide)
        replace hs := hs.locQ st33 hob rfl
        replace f900019 := f900019_
        refine wpListIn_nil ?_
        refine blk_n ?_
        refine then_n ?_
        refine x_seq ?_
        refine wpIn_region_lit ?_
        refine x_run tab hk (k := 1) (lv := []) (ks := [4]) (e' := [(4, .bool true)]) rfl trivial fun a hk => ?_
        refine wpListIn_nil ?_
        refine then_n ?_
        refine wpIn_ret ?_
        obtain rfl := Option.some.inj H
        exact x_retG hk (rs := [.tmp 4]) (vs := [.bool true]) rfl ⟨rfl, trivial⟩ ⟨cl w oi o [2, 3, 4] (fun l_ => if l_ = 1 then LF else if l_ = 2 then Lp0 else if l_ = 3 then Lp0_0 else if l_ = 4 then Lp0_1 else 0) o32, Ap0_0, cp0_0, Ap0_1, cp0_1, rfl, hs.closeF (Lm := [Lp0, Lp0_0, Lp0_1]) (Sh := []) hoa rfl (fun l_ => if l_ = 1 then LF else if l_ = 2 then Lp0 else if l_ = 3 then Lp0_0 else if l_ = 4 then Lp0_1 else 0), hs.closeM_ft (o := o) (ρ := fun l_ => if l_ = 1 then LF else if l_ = 2 then Lp0 else if l_ = 3 then Lp0_0 else if l_ = 4 then Lp0_1 else 0) f900019 (lab_at hoa (i := 1) rfl) rfl, hs.closeM_ft (o := o) (ρ := fun l_ => if l_ = 1 then LF else if l_ = 2 then Lp0 else if l_ = 3 then Lp0_0 else if l_ = 4 then Lp0_1 else 0) f900000 (lab_at hoa (i := 2) rfl) rfl, hcp0_0, f900001.conv (fun _ h_ => hs.closeM_ft (o := o) (ρ := fun l_ => if l_ = 1 then LF else if l_ = 2 then Lp0 else if l_ = 3 then Lp0_0 else if l_ = 4 then Lp0_1 else 0) h_ (lab_at hoa (i := 3) rfl) rfl) (fun _ h_ => hs.closeM_ft (o := o) (ρ := fun l_ => if l_ = 1 then LF else if l_ = 2 then Lp0 else if l_ = 3 then Lp0_0 else if l_ = 4 then Lp0_1 else 0) h_ (lab_at hoa (i := 0) rfl) rfl), hcp0_1⟩
    · rw [b11] at hk H
      replace H := bifT H
      refine x_if hk (b := true) rfl ?_
      refine (show Code.wpIn _ _ _ _ _ _ _ from ?_)
      refine wpIn_region_lit ?_
      refine x_run tab hk (k := 3) (lv := []) (ks := [16]) (e' := [(16, .pointer (some ⟨bp0, 0, none⟩))]) rfl trivial fun a hk => ?_
      refine x_op hk rfl ?_
      refine op_store tab hk (t := 3) (v := .int .i64 0) (b := bp0) (k := 0) (cs' := [.int .i64 0, .bool p0.order_private_, .bool p0.order_wrong, .bool p0.order_any, .bool p0.order_some, .int .i64 p0.order_n, .slice Ap0_0 (p0.order_nums).length cp0_0, .string p0.text, .int .u8 p0.runes_Lead, .int .i32 p0.runes_Rune, .int .i64 p0.runes_Need, .slice Ap0_1 (p0.out).length cp0_1]) rfl rfl rfl rfl rfl rfl f900019 rfl rfl fun w34 o35 st36 f900019_ => ?_
      replace f900000 := f900000.st st36 (by decide)
      replace f900001 := f900001.st st36 (by decide)
      replace hs := hs.locQ st36 hob rfl
      replace f900019 := f900019_
      refine wpListIn_nil ?_
      refine blk_n ?_
      refine then_n ?_
      refine x_seq ?_
      refine wpIn_region_lit ?_
      refine x_run tab hk (k := 1) (lv := []) (ks := [4]) (e' := [(4, .bool true)]) rfl trivial fun a hk => ?_
      refine wpListIn_nil ?_
      refine then_n ?_
      refine wpIn_ret ?_
      obtain rfl := Option.some.inj H
      exact x_retG hk (rs := [.tmp 4]) (vs := [.bool true]) rfl ⟨rfl, trivial⟩ ⟨cl w oi o [2, 3, 4] (fun l_ => if l_ = 1 then LF else if l_ = 2 then Lp0 else if l_ = 3 then Lp0_0 else if l_ = 4 then Lp0_1 else 0) o35, Ap0_0, cp0_0, Ap0_1, cp0_1, rfl, hs.closeF (Lm := [Lp0, Lp0_0, Lp0_1]) (Sh := []) hoa rfl (fun l_ => if l_ = 1 then LF else if l_ = 2 then Lp0 else if l_ = 3 then Lp0_0 else if l_ = 4 then Lp0_1 else 0), hs.closeM_ft (o := o) (ρ := fun l_ => if l_ = 1 then LF else if l_ = 2 then Lp0 else if l_ = 3 then Lp0_0 else if l_ = 4 then Lp0_1 else 0) f900019 (lab_at hoa (i := 1) rfl) rfl, hs.closeM_ft (o := o) (ρ := fun l_ => if l_ = 1 then LF else if l_ = 2 then Lp0 else if l_ = 3 then Lp0_0 else if l_ = 4 then Lp0_1 else 0) f900000 (lab_at hoa (i := 2) rfl) rfl, hcp0_0, f900001.conv (fun _ h_ => hs.closeM_ft (o := o) (ρ := fun l_ => if l_ = 1 then LF else if l_ = 2 then Lp0 else if l_ = 3 then Lp0_0 else if l_ = 4 then Lp0_1 else 0) h_ (lab_at hoa (i := 3) rfl) rfl) (fun _ h_ => hs.closeM_ft (o := o) (ρ := fun l_ => if l_ = 1 then LF else if l_ = 2 then Lp0 else if l_ = 3 then Lp0_0 else if l_ = 4 then Lp0_1 else 0) h_ (lab_at hoa (i := 0) rfl) rfl), hcp0_1⟩
  refine wpIn_region_lit ?_
  refine x_run tab hk (k := 3) (lv := []) (ks := [0, 1, 10]) (e' := [(0, .pointer (some ⟨bp0, 0, none⟩)), (1, .int .u8 p1), (10, .bool (p1 == (24 : Int)))]) rfl trivial fun a hk => ?_
  cases b37 : (p1 == (24 : Int))
  · rw [b37] at hk H
    replace H := bifF H
    refine x_run tab hk (k := 4) (lv := []) (ks := [0, 1, 7]) (e' := [(0, .pointer (some ⟨bp0, 0, none⟩)), (1, .int .u8 p1), (7, .bool (p1 == (26 : Int)))]) rfl trivial fun a hk => ?_
    refine wpListIn_nil ?_
    refine then_n ?_
    exact ⟨oi, (p1 == (26 : Int)), (by exact Kn.pick (ks := [0, 1, 7]) hk rfl), hs, f900000, f900001, f900019, H⟩
  · rw [b37] at hk H
    replace H := bifT H
    refine x_run tab hk (k := 4) (lv := []) (ks := [0, 1, 7]) (e' := [(0, .pointer (some ⟨bp0, 0, none⟩)), (1, .int .u8 p1), (7, .bool true)]) rfl trivial fun a hk => ?_
    refine wpListIn_nil ?_
    refine then_n ?_
    exact ⟨oi, true, (by exact Kn.pick (ks := [0, 1, 7]) hk rfl), hs, f900000, f900001, f900019, H⟩

/-! (*tidewrack/seq.Parser).onCommand -/
theorem seq_Parser_onCommand_calls (bp0 : Nat) (Ap0_0 : Option Addr) (cp0_0 : Nat) (Ap0_1 : Option Addr) (cp0_1 : Nat) (p0 : T30) (p1 : Int) (w : World) (o : Nat → Nat) (LF : Nat) (Lp0 : Nat) (hp0 : Ft (Bx bp0 31 [.int .i64 p0.state, .bool p0.order_private_, .bool p0.order_wrong, .bool p0.order_any, .bool p0.order_some, .int .i64 p0.order_n, .slice Ap0_0 (p0.order_nums).length cp0_0, .string p0.text, .int .u8 p0.runes_Lead, .int .i32 p0.runes_Rune, .int .i64 p0.runes_Need, .slice Ap0_1 (p0.out).length cp0_1]) w o Lp0) (Lp0_0 : Nat) (hp0_0 : Ft (Own (encInt .i64) 3 (.slice Ap0_0 (p0.order_nums).length cp0_0) p0.order_nums) w o Lp0_0) (hcp0_0 : (p0.order_nums).length ≤ cp0_0) (Lp0_1 : Nat) (hp0_1 : NOwn dT37 38 Ap0_1 cp0_1 p0.out w o Lp0_1 LF) (hcp0_1 : (p0.out).length ≤ cp0_1) (hd0 : ([LF, Lp0, Lp0_0, Lp0_1] : List Nat).Nodup) (r : T30) (H : seq_Parser_onCommand p0 p1 = some r) :
    Calls Tryd.prog 28 #[.pointer (some ⟨bp0, 0, none⟩), .int .u8 p1] w (Ret fun v_ w' => ∃ o' : Nat → Nat, ∃ A0 : Option Addr, ∃ c0 : Nat, ∃ A1 : Option Addr, ∃ c1 : Nat, v_ = .tuple #[] ∧ St [Lp0, Lp0_0, Lp0_1] w o w' o' ∧ Ft (Bx bp0 31 [.int .i64 r.state, .bool r.order_private_, .bool r.order_wrong, .bool r.order_any, .bool r.order_some, .int .i64 r.order_n, .slice A0 (r.order_nums).length c0, .string r.text, .int .u8 r.runes_Lead, .int .i32 r.runes_Rune, .int .i64 r.runes_Need, .slice A1 (r.out).length c1]) w' o' Lp0 ∧ CO (encInt .i64) 3 A0 c0 (r.order_nums) (r.state == (3 : Int)) w' o' Lp0_0 LF ∧ (r.order_nums).length ≤ c0 ∧ NOwn dT37 38 A1 c1 r.out w' o' Lp0_1 LF ∧ (r.out).length ≤ c1) := by
  refine x_enter (vs := [.pointer (some ⟨bp0, 0, none⟩), .int .u8 p1]) Tryd.func28 rfl rfl rfl fun a hk => ?_
  obtain ⟨oi, hs0, h0, h1, hob, hoz, hoa⟩ := St.startM2 w o (m := 4) hd0 rfl
  have hs := hs0 [2, 3, 4]
  have f900000 := h1 2 3 hp0_0 rfl rfl
  have f900001 := hp0_1.conv (fun _ h_ => h1 3 4 h_ rfl rfl) (fun _ h_ => h1 0 1 h_ rfl rfl)
  have f900019 := h1 1 2 hp0 rfl rfl
  clear h0 h1 hs0
  rw [seq_Parser_onCommand] at H
  refine x_seq ?_
  refine x_seq ?_
  refine wpIn_region_lit ?_
  refine x_run tab hk (k := 2) (lv := []) (ks := [0, 1, 5, 6]) (e' := [(0, .pointer (some ⟨bp0, 0, none⟩)), (1, .int .u8 p1), (5, .pointer (some ⟨bp0, 0, none⟩)), (6, .int .u8 p1)]) rfl trivial fun a hk => ?_
  refine x_op hk rfl ?_
  obtain ⟨t4, hc5, H⟩ := bindS H
  refine op_call hk ent_33 (vs := [.pointer (some ⟨bp0, 0, none⟩), .int .u8 p1]) rfl (seq_Parser_common_ofown_calls bp0 Ap0_0 cp0_0 Ap0_1 cp0_1 p0 p1 _ oi 1 2 f900019 3 f900000 hcp0_0 4 f900001 hcp0_1 (by decide)   _ hc5) ?_
  rintro _ w6 ⟨o7, A10, c11, A14, c15, rfl, st8, f9, f12, hc13, f16, hc17⟩
  replace hs := hs.locQ st8 hob rfl
  have hk := hk.put 7 (.bool t4.1) rfl
  refine wpListIn_nil ?_
  refine then_n ?_
  cases b18 : t4.1
  · rw [b18] at hk H
    replace H := bifF H
    refine x_if hk (b := false) rfl ?_
    refine (show Code.wpIn _ _ _ _ _ _ _ from ?_)
    refine wpIn_skip ?_
    refine then_n ?_
    refine x_seq ?_
    refine wpIn_region_lit ?_
    refine x_run tab hk (k := 7) (lv := [.bool t4.2.order_any]) (ks := [0, 1, 4]) (e' := [(0, .pointer (some ⟨bp0, 0, none⟩)), (1, .int .u8 p1), (4, .bool (!t4.2.order_any))]) rfl ⟨(load1 tab rfl ((Bx.cell f9.now 3).trans rfl)), trivial⟩ fun a hk => ?_
    refine wpListIn_nil ?_
    refine then_n ?_
    refine x_seq ?_
    refine wpIn_region_lit ?_
    refine x_run tab hk (k := 4) (lv := []) (ks := [0, 1, 4, 17]) (e' := [(0, .pointer (some ⟨bp0, 0, none⟩)), (1, .int .u8 p1), (4, .bool (!t4.2.order_any)), (17, .pointer (some ((⟨bp0, 0, none⟩ : Addr).add 3)))]) rfl trivial fun a hk => ?_
    refine x_op hk rfl ?_
    refine op_store tab hk (t := 4) (v := .bool true) (b := bp0) (k := 3) (cs' := [.int .i64 t4.2.state, .bool t4.2.order_private_, .bool t4.2.order_wrong, .bool true, .bool t4.2.order_some, .int .i64 t4.2.order_n, .slice A10 (t4.2.order_nums).length c11, .string t4.2.text, .int .u8 t4.2.runes_Lead, .int .i32 t4.2.runes_Rune, .int .i64 t4.2.runes_Need, .slice A14 (t4.2.out).length c15]) rfl rfl rfl rfl rfl rfl f9 rfl rfl fun w19 o20 st21 f9_ => ?_
    replace f12 := f12.st st21 (by decide)
    replace f16 := f16.st st21 (by decide)
    replace hs := hs.locQ st21 hob rfl
    replace f9 := f9_
    refine wpListIn_nil ?_
    refine then_n ?_
    refine wpIn_block ?_
    refine x_mid (fun a_ w_ => ∃ o29 : Nat → Nat, ∃ x30 : Bool, Kn 83 a_ [(0, .pointer (some ⟨bp0, 0, none⟩)), (1, .int .u8 p1), (4, .bool (!t4.2.order_any)), (22, .bool x30)] ∧ St [2, 3, 4] w oi w_ o29 ∧ Ft (Own (encInt .i64) 3 (.slice A10 (t4.2.order_nums).length c11) t4.2.order_nums) w_ o29 3 ∧ NOwn dT37 38 A14 c15 t4.2.out w_ o29 4 1 ∧ Ft (Bx bp0 31 [.int .i64 t4.2.state, .bool t4.2.order_private_, .bool t4.2.order_wrong, .bool true, .bool t4.2.order_some, .int .i64 t4.2.order_n, .slice A10 (t4.2.order_nums).length c11, .string t4.2.text, .int .u8 t4.2.runes_Lead, .int .i32 t4.2.runes_Rune, .int .i64 t4.2.runes_Need, .slice A14 (t4.2.out).length c15]) w_ o29 2 ∧ seq_Parser_onCommand_j1 p1 t4 x30 = some r) ?_ ?_
    rotate_left
    · rintro a w31 ⟨o29, x30, hk, hs, f12, f16, f9, H⟩
      rw [seq_Parser_onCommand_j1] at H
      cases b32 : x30
      · rw [b32] at hk H
        replace H := bifF H
        refine x_if hk (b := false) rfl ?_
        refine (show Code.wpIn _ _ _ _ _ _ _ from ?_)
        refine x_mid (fun a_ w_ => ∃ o40 : Nat → Nat, ∃ x41 : Bool, Kn 83 a_ [(0, .pointer (some ⟨bp0, 0, none⟩)), (1, .int .u8 p1), (4, .bool (!t4.2.order_any)), (48, .bool x41)] ∧ St [2, 3, 4] w oi w_ o40 ∧ Ft (Own (encInt .i64) 3 (.slice A10 (t4.2.order_nums).length c11) t4.2.order_nums) w_ o40 3 ∧ NOwn dT37 38 A14 c15 t4.2.out w_ o40 4 1 ∧ Ft (Bx bp0 31 [.int .i64 t4.2.state, .bool t4.2.order_private_, .bool t4.2.order_wrong, .bool true, .bool t4.2.order_some, .int .i64 t4.2.order_n, .slice A10 (t4.2.order_nums).length c11, .string t4.2.text, .int .u8 t4.2.runes_Lead, .int .i32 t4.2.runes_Rune, .int .i64 t4.2.runes_Need, .slice A14 (t4.2.out).length c15]) w_ o40 2 ∧ seq_Parser_onCommand_j2 p1 t4 x41 = some r) ?_ ?_
        rotate_left
        · rintro a w42 ⟨o40, x41, hk, hs, f12, f16, f9, H⟩
          rw [seq_Parser_onCommand_j2] at H
          cases b43 : x41
          · rw [b43] at hk H
            replace H := bifF H
            refine x_if hk (b := false) rfl ?_
            refine (show Code.wpIn _ _ _ _ _ _ _ from ?_)
            refine x_mid (fun a_ w_ => ∃ o51 : Nat → Nat, ∃ x52 : Bool, Kn 83 a_ [(0, .pointer (some ⟨bp0, 0, none⟩)), (1, .int .u8 p1), (63, .bool x52)] ∧ St [2, 3, 4] w oi w_ o51 ∧ Ft (Own (encInt .i64) 3 (.slice A10 (t4.2.order_nums).length c11) t4.2.order_nums) w_ o51 3 ∧ NOwn dT37 38 A14 c15 t4.2.out w_ o51 4 1 ∧ Ft (Bx bp0 31 [.int .i64 t4.2.state, .bool t4.2.order_private_, .bool t4.2.order_wrong, .bool true, .bool t4.2.order_some, .int .i64 t4.2.order_n, .slice A10 (t4.2.order_nums).length c11, .string t4.2.text, .int .u8 t4.2.runes_Lead, .int .i32 t4.2.runes_Rune, .int .i64 t4.2.runes_Need, .slice A14 (t4.2.out).length c15]) w_ o51 2 ∧ seq_Parser_onCommand_j3 p1 t4 x52 = some r) ?_ ?_
            rotate_left
            · rintro a w53 ⟨o51, x52, hk, hs, f12, f16, f9, H⟩
              rw [seq_Parser_onCommand_j3] at H
              cases b54 : x52
              · rw [b54] at hk H
                replace H := bifF H
                refine x_if hk (b := false) rfl ?_
                refine (show Code.wpIn _ _ _ _ _ _ _ from ?_)
                refine x_mid (fun a_ w_ => ∃ o62 : Nat → Nat, ∃ x63 : Bool, Kn 83 a_ [(0, .pointer (some ⟨bp0, 0, none⟩)), (1, .int .u8 p1), (73, .bool x63)] ∧ St [2, 3, 4] w oi w_ o62 ∧ Ft (Own (encInt .i64) 3 (.slice A10 (t4.2.order_nums).length c11) t4.2.order_nums) w_ o62 3 ∧ NOwn dT37 38 A14 c15 t4.2.out w_ o62 4 1 ∧ Ft (Bx bp0 31 [.int .i64 t4.2.state, .bool t4.2.order_private_, .bool t4.2.order_wrong, .bool true, .bool t4.2.order_some, .int .i64 t4.2.order_n, .slice A10 (t4.2.order_nums).length c11, .string t4.2.text, .int .u8 t4.2.runes_Lead, .int .i32 t4.2.runes_Rune, .int .i64 t4.2.runes_Need, .slice A14 (t4.2.out).length c15]) w_ o62 2 ∧ seq_Parser_onCommand_j4 p1 t4 x63 = some r) ?_ ?_
                rotate_left
                · rintro a w64 ⟨o62, x63, hk, hs, f12, f16, f9, H⟩
                  rw [seq_Parser_onCommand_j4] at H
                  cases b65 : x63
                  · rw [b65] at hk H
                    replace H := bifF H
                    refine x_if hk (b := false) rfl ?_
                    refine (show Code.wpIn _ _ _ _ _ _ _ from ?_)
                    refine wpIn_region_lit ?_
                    refine x_run tab hk (k := 4) (lv := []) (ks := [21]) (e' := [(21, .pointer (some ((⟨bp0, 0, none⟩ : Addr).add 2)))]) rfl trivial fun a hk => ?_
                    refine x_op hk rfl ?_
                    refine op_store tab hk (t := 4) (v := .bool true) (b := bp0) (k := 2) (cs' := [.int .i64 t4.2.state, .bool t4.2.order_private_, .bool true, .bool true, .bool t4.2.order_some, .int .i64 t4.2.order_n, .slice A10 (t4.2.order_nums).length c11, .string t4.2.text, .int .u8 t4.2.runes_Lead, .int .i32 t4.2.runes_Rune, .int .i64 t4.2.runes_Need, .slice A14 (t4.2.out).length c15]) rfl rfl rfl rfl rfl rfl f9 rfl rfl fun w66 o67 st68 f9_ => ?_
                    replace f12 := f12.st st68 (by decide)
                    replace f16 := f16.st st68 (by decide)
                    replace hs := hs.locQ st68 hob rfl
                    replace f9 := f9_
                    refine wpListIn_nil ?_
                    refine blk_n ?_
                    obtain rfl := Option.some.inj H
                    exact x_endG hk (rs := []) (vs := []) rfl trivial ⟨cl w oi o [2, 3, 4] (fun l_ => if l_ = 1 then LF else if l_ = 2 then Lp0 else if l_ = 3 then Lp0_0 else if l_ = 4 then Lp0_1 else 0) o67, A10, c11, A14, c15, rfl, hs.closeF (Lm := [Lp0, Lp0_0, Lp0_1]) (Sh := []) hoa rfl (fun l_ => if l_ = 1 then LF else if l_ = 2 then Lp0 else if l_ = 3 then Lp0_0 else if l_ = 4 then Lp0_1 else 0), hs.closeM_ft (o := o) (ρ := fun l_ => if l_ = 1 then LF else if l_ = 2 then Lp0 else if l_ = 3 then Lp0_0 else if l_ = 4 then Lp0_1 else 0) f9 (lab_at hoa (i := 1) rfl) rfl, (CO.of_own (hs.closeM_ft (o := o) (ρ := fun l_ => if l_ = 1 then LF else if l_ = 2 then Lp0 else if l_ = 3 then Lp0_0 else if l_ = 4 then Lp0_1 else 0) f12 (lab_at hoa (i := 2) rfl) rfl) _ _), hc13, f16.conv (fun _ h_ => hs.closeM_ft (o := o) (ρ := fun l_ => if l_ = 1 then LF else if l_ = 2 then Lp0 else if l_ = 3 then Lp0_0 else if l_ = 4 then Lp0_1 else 0) h_ (lab_at hoa (i := 3) rfl) rfl) (fun _ h_ => hs.closeM_ft (o := o) (ρ := fun l_ => if l_ = 1 then LF else if l_ = 2 then Lp0 else if l_ = 3 then Lp0_0 else if l_ = 4 then Lp0_1 else 0) h_ (lab_at hoa (i := 0) rfl) rfl), hc17⟩
                  · rw [b65] at hk H
                    replace H := bifT H
                    refine x_if hk (b := true) rfl ?_
                    refine (show Code.wpIn _ _ _ _ _ _ _ from ?_)
                    refine wpIn_region_lit ?_
                    refine x_run tab hk (k := 2) (lv := []) (ks := [80, 81]) (e' := [(80, .pointer (some ⟨bp0, 0, none⟩)), (81, .int .u8 p1)]) rfl trivial fun a hk => ?_
                    refine x_op hk rfl ?_
                    obtain ⟨t72, hc73, H⟩ := bindS H
                    refine op_call hk ent_37 (vs := [.pointer (some ⟨bp0, 0, none⟩), .int .u8 p1]) rfl (seq_Parser_finish_calls bp0 A10 c11 A14 c15 (⟨t4.2.state, t4.2.order_private_, t4.2.order_wrong, true, t4.2.order_some, t4.2.order_n, t4.2.order_nums, t4.2.text, t4.2.runes_Lead, t4.2.runes_Rune, t4.2.runes_Need, t4.2.out⟩ : T30) p1 _ o62 1 2 f9 3 f12 hc13 4 f16 hc17 (by decide)   _ hc73) ?_
                    rintro _ w74 ⟨o75, A78, c79, A82, c83, rfl, st76, f77, f80, hc81, f84, hc85⟩
                    replace hs := hs.locQ st76 hob rfl
                    have hk := hk.put 82 (.tuple #[]) rfl
                    refine wpListIn_nil ?_
                    refine blk_n ?_
                    obtain rfl := Option.some.inj H
                    exact x_endG hk (rs := []) (vs := []) rfl trivial ⟨cl w oi o [2, 3, 4] (fun l_ => if l_ = 1 then LF else if l_ = 2 then Lp0 else if l_ = 3 then Lp0_0 else if l_ = 4 then Lp0_1 else 0) o75, A78, c79, A82, c83, rfl, hs.closeF (Lm := [Lp0, Lp0_0, Lp0_1]) (Sh := []) hoa rfl (fun l_ => if l_ = 1 then LF else if l_ = 2 then Lp0 else if l_ = 3 then Lp0_0 else if l_ = 4 then Lp0_1 else 0), hs.closeM_ft (o := o) (ρ := fun l_ => if l_ = 1 then LF else if l_ = 2 then Lp0 else if l_ = 3 then Lp0_0 else if l_ = 4 then Lp0_1 else 0) f77 (lab_at hoa (i := 1) rfl) rfl, f80.conv (fun _ h_ => hs.closeM_ft (o := o) (ρ := fun l_ => if l_ = 1 then LF else if l_ = 2 then Lp0 else if l_ = 3 then Lp0_0 else if l_ = 4 then Lp0_1 else 0) h_ (lab_at hoa (i := 2) rfl) rfl) (fun _ h_ => hs.closeM_ft (o := o) (ρ := fun l_ => if l_ = 1 then LF else if l_ = 2 then Lp0 else if l_ = 3 then Lp0_0 else if l_ = 4 then Lp0_1 else 0) h_ (lab_at hoa (i := 0) rfl) rfl), hc81, f84.conv (fun _ h_ => hs.closeM_ft (o := o) (ρ := fun l_ => if l_ = 1 then LF else if l_ = 2 then Lp0 else if l_ = 3 then Lp0_0 else if l_ = 4 then Lp0_1 else 0) h_ (lab_at hoa (i := 3) rfl) rfl) (fun _ h_ => hs.closeM_ft (o := o) (ρ := fun l_ => if l_ = 1 then LF else if l_ = 2 then Lp0 else if l_ = 3 then Lp0_0 else if l_ = 4 then Lp0_1 else 0) h_ (lab_at hoa (i := 0) rfl) rfl), hc85⟩
                refine wpIn_region_lit ?_
                refine x_run tab hk (k := 3) (lv := []) (ks := [0, 1, 76]) (e' := [(0, .pointer (some ⟨bp0, 0, none⟩)), (1, .int .u8 p1), (76, .bool (decide (p1 ≥ (64 : Int))))]) rfl trivial fun a hk => ?_
                cases b86 : (decide (p1 ≥ (64 : Int)))
                · rw [b86] at hk H
                  replace H := bifF H
                  refine x_run tab hk (k := 4) (lv := []) (ks := [0, 1, 73]) (e' := [(0, .pointer (some ⟨bp0, 0, none⟩)), (1, .int .u8 p1), (73, .bool false)]) rfl trivial fun a hk => ?_
                  refine wpListIn_nil ?_
                  refine then_n ?_
                  exact ⟨o51, false, (by exact Kn.pick (ks := [0, 1, 73]) hk rfl), hs, f12, f16, f9, H⟩
                · rw [b86] at hk H
                  replace H := bifT H
                  refine x_run tab hk (k := 4) (lv := []) (ks := [0, 1, 73]) (e' := [(0, .pointer (some ⟨bp0, 0, none⟩)), (1, .int .u8 p1), (73, .bool (decide (p1 < (127 : Int))))]) rfl trivial fun a hk => ?_
                  refine wpListIn_nil ?_
                  refine then_n ?_
                  exact ⟨o51, (decide (p1 < (127 : Int))), (by exact Kn.pick (ks := [0, 1, 73]) hk rfl), hs, f12, f16, f9, H⟩
              · rw [b54] at hk H
                replace H := bifT H
                refine x_if hk (b := true) rfl ?_
                refine (show Code.wpIn _ _ _ _ _ _ _ from ?_)
                refine wpIn_region_lit ?_
                refine x_run tab hk (k := 4) (lv := []) (ks := [72]) (e' := [(72, .pointer (some ((⟨bp0, 0, none⟩ : Addr).add 1)))]) rfl trivial fun a hk => ?_
                refine x_op hk rfl ?_
                refine op_store tab hk (t := 4) (v := .bool true) (b := bp0) (k := 1) (cs' := [.int .i64 t4.2.state, .bool true, .bool t4.2.order_wrong, .bool true, .bool t4.2.order_some, .int .i64 t4.2.order_n, .slice A10 (t4.2.order_nums).length c11, .string t4.2.text, .int .u8 t4.2.runes_Lead, .int .i32 t4.2.runes_Rune, .int .i64 t4.2.runes_Need, .slice A14 (t4.2.out).length c15]) rfl rfl rfl rfl rfl rfl f9 rfl rfl fun w87 o88 st89 f9_ => ?_
                replace f12 := f12.st st89 (by decide)
                replace f16 := f16.st st89 (by decide)
                replace hs := hs.locQ st89 hob rfl
                replace f9 := f9_
                refine wpListIn_nil ?_
                refine blk_n ?_
                obtain rfl := Option.some.inj H
                exact x_endG hk (rs := []) (vs := []) rfl trivial ⟨cl w oi o [2, 3, 4] (fun l_ => if l_ = 1 then LF else if l_ = 2 then Lp0 else if l_ = 3 then Lp0_0 else if l_ = 4 then Lp0_1 else 0) o88, A10, c11, A14, c15, rfl, hs.closeF (Lm := [Lp0, Lp0_0, Lp0_1]) (Sh := []) hoa rfl (fun l_ => if l_ = 1 then LF else if l_ = 2 then Lp0 else if l_ = 3 then Lp0_0 else if l_ = 4 then Lp0_1 else 0), hs.closeM_ft (o := o) (ρ := fun l_ => if l_ = 1 then LF else if l_ = 2 then Lp0 else if l_ = 3 then Lp0_0 else if l_ = 4 then Lp0_1 else 0) f9 (lab_at hoa (i := 1) rfl) rfl, (CO.of_own (hs.closeM_ft (o := o) (ρ := fun l_ => if l_ = 1 then LF else if l_ = 2 then Lp0 else if l_ = 3 then Lp0_0 else if l_ = 4 then Lp0_1 else 0) f12 (lab_at hoa (i := 2) rfl) rfl) _ _), hc13, f16.conv (fun _ h_ => hs.closeM_ft (o := o) (ρ := fun l_ => if l_ = 1 then LF else if l_ = 2 then Lp0 else if l_ = 3 then Lp0_0 else if l_ = 4 then Lp0_1 else 0) h_ (lab_at hoa (i := 3) rfl) rfl) (fun _ h_ => hs.closeM_ft (o := o) (ρ := fun l_ => if l_ = 1 then LF else if l_ = 2 then Lp0 else if l_ = 3 then Lp0_0 else if l_ = 4 then Lp0_1 else 0) h_ (lab_at hoa (i := 0) rfl) rfl), hc17⟩
            refine wpIn_region_lit ?_
            refine x_run tab hk (k := 3) (lv := []) (ks := [0, 1, 4, 66]) (e' := [(0, .pointer (some ⟨bp0, 0, none⟩)), (1, .int .u8 p1), (4, .bool (!t4.2.order_any)), (66, .bool (p1 == (63 : Int)))]) rfl trivial fun a hk => ?_
            cases b90 : (p1 == (63 : Int))
            · rw [b90] at hk H
              replace H := bifF H
              refine x_run tab hk (k := 3) (lv := []) (ks := [0, 1, 63]) (e' := [(0, .pointer (some ⟨bp0, 0, none⟩)), (1, .int .u8 p1), (63, .bool false)]) rfl trivial fun a hk => ?_
              refine wpListIn_nil ?_
              refine then_n ?_
              exact ⟨o40, false, (by exact Kn.pick (ks := [0, 1, 63]) hk rfl), hs, f12, f16, f9, H⟩
            · rw [b90] at hk H
              replace H := bifT H
              refine x_run tab hk (k := 3) (lv := []) (ks := [0, 1, 63]) (e' := [(0, .pointer (some ⟨bp0, 0, none⟩)), (1, .int .u8 p1), (63, .bool (!t4.2.order_any))]) rfl trivial fun a hk => ?_
              refine wpListIn_nil ?_
              refine then_n ?_
              exact ⟨o40, (!t4.2.order_any), (by exact Kn.pick (ks := [0, 1, 63]) hk rfl), hs, f12, f16, f9, H⟩
          · rw [b43] at hk H
            replace H := bifT H
            refine x_if hk (b := true) rfl ?_
            refine (show Code.wpIn _ _ _ _ _ _ _ from ?_)
            refine x_seq ?_
            refine wpIn_region_lit ?_
            refine x_run tab hk (k := 3) (lv := []) (ks := [0, 57]) (e' := [(0, .pointer (some ⟨bp0, 0, none⟩)), (57, .pointer (some ((⟨bp0, 0, none⟩ : Addr).add 1)))]) rfl trivial fun a hk => ?_
            refine x_op hk rfl ?_
            obtain ⟨t94, hc95, H⟩ := bindS H
            refine op_call hk ent_36 (vs := [.pointer (some ((⟨bp0, 0, none⟩ : Addr).add 1))]) rfl (seq_order_push_of31_1_calls bp0 A10 c11 A14 c15 (⟨t4.2.state, t4.2.order_private_, t4.2.order_wrong, true, t4.2.order_some, t4.2.order_n, t4.2.order_nums, t4.2.text, t4.2.runes_Lead, t4.2.runes_Rune, t4.2.runes_Need, t4.2.out⟩ : T30) _ o40 1 2 f9 3 f12 hc13 (by decide)   _ hc95) ?_
            rintro _ w96 ⟨o97, A100, c101, rfl, st98, f99, f102, hc103⟩
            replace f16 := f16.st st98 (by decide)
            replace hs := hs.locQ st98 hob rfl
            have hk := hk.put 58 (.tuple #[]) rfl
            refine wpListIn_nil ?_
            refine then_n ?_
            refine wpIn_region_lit ?_
            refine x_run tab hk (k := 4) (lv := []) (ks := [62]) (e' := [(62, .pointer (some ((⟨bp0, 0, none⟩ : Addr).add 4)))]) rfl trivial fun a hk => ?_
            refine x_op hk rfl ?_
            refine op_store tab hk (t := 4) (v := .bool true) (b := bp0) (k := 4) (cs' := [.int .i64 t4.2.state, .bool t94.private_, .bool t94.wrong, .bool t94.any, .bool true, .int .i64 t94.n, .slice A100 (t94.nums).length c101, .string t4.2.text, .int .u8 t4.2.runes_Lead, .int .i32 t4.2.runes_Rune, .int .i64 t4.2.runes_Need, .slice A14 (t4.2.out).length c15]) rfl rfl rfl rfl rfl rfl f99 rfl rfl fun w104 o105 st106 f99_ => ?_
            replace f102 := f102.st st106 (by decide)
            replace f16 := f16.st st106 (by decide)
            replace hs := hs.locQ st106 hob rfl
            replace f99 := f99_
            refine wpListIn_nil ?_
            refine blk_n ?_
            obtain rfl := Option.some.inj H
            exact x_endG hk (rs := []) (vs := []) rfl trivial ⟨cl w oi o [2, 3, 4] (fun l_ => if l_ = 1 then LF else if l_ = 2 then Lp0 else if l_ = 3 then Lp0_0 else if l_ = 4 then Lp0_1 else 0) o105, A100, c101, A14, c15, rfl, hs.closeF (Lm := [Lp0, Lp0_0, Lp0_1]) (Sh := []) hoa rfl (fun l_ => if l_ = 1 then LF else if l_ = 2 then Lp0 else if l_ = 3 then Lp0_0 else if l_ = 4 then Lp0_1 else 0), hs.closeM_ft (o := o) (ρ := fun l_ => if l_ = 1 then LF else if l_ = 2 then Lp0 else if l_ = 3 then Lp0_0 else if l_ = 4 then Lp0_1 else 0) f99 (lab_at hoa (i := 1) rfl) rfl, (CO.of_own (hs.closeM_ft (o := o) (ρ := fun l_ => if l_ = 1 then LF else if l_ = 2 then Lp0 else if l_ = 3 then Lp0_0 else if l_ = 4 then Lp0_1 else 0) f102 (lab_at hoa (i := 2) rfl) rfl) _ _), hc103, f16.conv (fun _ h_ => hs.closeM_ft (o := o) (ρ := fun l_ => if l_ = 1 then LF else if l_ = 2 then Lp0 else if l_ = 3 then Lp0_0 else if l_ = 4 then Lp0_1 else 0) h_ (lab_at hoa (i := 3) rfl) rfl) (fun _ h_ => hs.closeM_ft (o := o) (ρ := fun l_ => if l_ = 1 then LF else if l_ = 2 then Lp0 else if l_ = 3 then Lp0_0 else if l_ = 4 then Lp0_1 else 0) h_ (lab_at hoa (i := 0) rfl) rfl), hc17⟩
        refine wpIn_region_lit ?_
        refine x_run tab hk (k := 3) (lv := []) (ks := [0, 1, 4, 51]) (e' := [(0, .pointer (some ⟨bp0, 0, none⟩)), (1, .int .u8 p1), (4, .bool (!t4.2.order_any)), (51, .bool (p1 == (59 : Int)))]) rfl trivial fun a hk => ?_
        cases b107 : (p1 == (59 : Int))
        · rw [b107] at hk H
          replace H := bifF H
          refine x_run tab hk (k := 4) (lv := []) (ks := [0, 1, 4, 48]) (e' := [(0, .pointer (some ⟨bp0, 0, none⟩)), (1, .int .u8 p1), (4, .bool (!t4.2.order_any)), (48, .bool (p1 == (58 : Int)))]) rfl trivial fun a hk => ?_
          refine wpListIn_nil ?_
          refine then_n ?_
          exact ⟨o29, (p1 == (58 : Int)), (by exact Kn.pick (ks := [0, 1, 4, 48]) hk rfl), hs, f12, f16, f9, H⟩
        · rw [b107] at hk H
          replace H := bifT H
          refine x_run tab hk (k := 4) (lv := []) (ks := [0, 1, 4, 48]) (e' := [(0, .pointer (some ⟨bp0, 0, none⟩)), (1, .int .u8 p1), (4, .bool (!t4.2.order_any)), (48, .bool true)]) rfl trivial fun a hk => ?_
          refine wpListIn_nil ?_
          refine then_n ?_
          exact ⟨o29, true, (by exact Kn.pick (ks := [0, 1, 4, 48]) hk rfl), hs, f12, f16, f9, H⟩
      · rw [b32] at hk H
        replace H := bifT H
        refine x_if hk (b := true) rfl ?_
        refine (show Code.wpIn _ _ _ _ _ _ _ from ?_)
        refine wpIn_region_lit ?_
        refine x_run tab hk (k := 10) (lv := [.int .i64 t4.2.order_n]) (ks := [29, 30, 36, 38]) (e' := [(29, .pointer (some ⟨bp0, 0, none⟩)), (30, .pointer (some ⟨bp0, 0, none⟩)), (36, .int .i64 (IntKind.wrap .i64 (10 * t4.2.order_n))), (38, .int .u8 (IntKind.wrap .u8 (p1 - 48)))]) rfl ⟨(load1 tab rfl ((Bx.cell f9.now 5).trans rfl)), trivial⟩ fun a hk => ?_
        refine x_run tab hk (k := 6) (lv := []) (ks := [30, 41, 44]) (e' := [(30, .pointer (some ⟨bp0, 0, none⟩)), (41, .int .i64 (mnI (IntKind.wrap .i64 ((IntKind.wrap .i64 (10 * t4.2.order_n)) + (IntKind.wrap .i64 (IntKind.wrap .u8 (p1 - 48))))) 9999)), (44, .pointer (some ((⟨bp0, 0, none⟩ : Addr).add 5)))]) rfl trivial fun a hk => ?_
        refine x_op hk rfl ?_
        refine op_store tab hk (t := 3) (v := .int .i64 (mnI (IntKind.wrap .i64 ((IntKind.wrap .i64 (10 * t4.2.order_n)) + (IntKind.wrap .i64 (IntKind.wrap .u8 (p1 - 48))))) 9999)) (b := bp0) (k := 5) (cs' := [.int .i64 t4.2.state, .bool t4.2.order_private_, .bool t4.2.order_wrong, .bool true, .bool t4.2.order_some, .int .i64 (mnI (IntKind.wrap .i64 ((IntKind.wrap .i64 (10 * t4.2.order_n)) + (IntKind.wrap .i64 (IntKind.wrap .u8 (p1 - 48))))) 9999), .slice A10 (t4.2.order_nums).length c11, .string t4.2.text, .int .u8 t4.2.runes_Lead, .int .i32 t4.2.runes_Rune, .int .i64 t4.2.runes_Need, .slice A14 (t4.2.out).length c15]) rfl rfl rfl rfl rfl rfl f9 rfl rfl fun w108 o109 st110 f9_ => ?_
        replace f12 := f12.st st110 (by decide)
        replace f16 := f16.st st110 (by decide)
        replace hs := hs.locQ st110 hob rfl
        replace f9 := f9_
        refine x_run tab hk (k := 3) (lv := []) (ks := [47]) (e' := [(47, .pointer (some ((⟨bp0, 0, none⟩ : Addr).add 4)))]) rfl trivial fun a hk => ?_
        refine x_op hk rfl ?_
        refine op_store tab hk (t := 4) (v := .bool true) (b := bp0) (k := 4) (cs' := [.int .i64 t4.2.state, .bool t4.2.order_private_, .bool t4.2.order_wrong, .bool true, .bool true, .int .i64 (mnI (IntKind.wrap .i64 ((IntKind.wrap .i64 (10 * t4.2.order_n)) + (IntKind.wrap .i64 (IntKind.wrap .u8 (p1 - 48))))) 9999), .slice A10 (t4.2.order_nums).length c11, .string t4.2.text, .int .u8 t4.2.runes_Lead, .int .i32 t4.2.runes_Rune, .int .i64 t4.2.runes_Need, .slice A14 (t4.2.out).length c15]) rfl rfl rfl rfl rfl rfl f9 rfl rfl fun w111 o112 st113 f9_ => ?_
        replace f12 := f12.st st113 (by decide)
        replace f16 := f16.st st113 (by decide)
        replace hs := hs.locQ st113 hob rfl
        replace f9 := f9_
        refine wpListIn_nil ?_
        refine blk_n ?_
        obtain rfl := Option.some.inj H
        exact x_endG hk (rs := []) (vs := []) rfl trivial ⟨cl w oi o [2, 3, 4] (fun l_ => if l_ = 1 then LF else if l_ = 2 then Lp0 else if l_ = 3 then Lp0_0 else if l_ = 4 then Lp0_1 else 0) o112, A10, c11, A14, c15, rfl, hs.closeF (Lm := [Lp0, Lp0_0, Lp0_1]) (Sh := []) hoa rfl (fun l_ => if l_ = 1 then LF else if l_ = 2 then Lp0 else if l_ = 3 then Lp0_0 else if l_ = 4 then Lp0_1 else 0), hs.closeM_ft (o := o) (ρ := fun l_ => if l_ = 1 then LF else if l_ = 2 then Lp0 else if l_ = 3 then Lp0_0 else if l_ = 4 then Lp0_1 else 0) f9 (lab_at hoa (i := 1) rfl) rfl, (CO.of_own (hs.closeM_ft (o := o) (ρ := fun l_ => if l_ = 1 then LF else if l_ = 2 then Lp0 else if l_ = 3 then Lp0_0 else if l_ = 4 then Lp0_1 else 0) f12 (lab_at hoa (i := 2) rfl) rfl) _ _), hc13, f16.conv (fun _ h_ => hs.closeM_ft (o := o) (ρ := fun l_ => if l_ = 1 then LF else if l_ = 2 then Lp0 else if l_ = 3 then Lp0_0 else if l_ = 4 then Lp0_1 else 0) h_ (lab_at hoa (i := 3) rfl) rfl) (fun _ h_ => hs.closeM_ft (o := o) (ρ := fun l_ => if l_ = 1 then LF else if l_ = 2 then Lp0 else if l_ = 3 then Lp0_0 else if l_ = 4 then Lp0_1 else 0) h_ (lab_at hoa (i := 0) rfl) rfl), hc17⟩
    refine wpIn_region_lit ?_
    refine x_run tab hk (k := 3) (lv := []) (ks := [0, 1, 4, 25]) (e' := [(0, .pointer (some ⟨bp0, 0, none⟩)), (1, .int .u8 p1), (4, .bool (!t4.2.order_any)), (25, .bool (decide (p1 ≥ (48 : Int))))]) rfl trivial fun a hk => ?_
    cases b114 : (decide (p1 ≥ (48 : Int)))
    · rw [b114] at hk H
      replace H := bifF H
      refine x_run tab hk (k := 4) (lv := []) (ks := [0, 1, 4, 22]) (e' := [(0, .pointer (some ⟨bp0, 0, none⟩)), (1, .int .u8 p1), (4, .bool (!t4.2.order_any)), (22, .bool false)]) rfl trivial fun a hk => ?_
      refine wpListIn_nil ?_
      refine then_n ?_
      exact ⟨o20, false, (by exact Kn.pick (ks := [0, 1, 4, 22]) hk rfl), hs, f12, f16, f9, H⟩
    · rw [b114] at hk H
      replace H := bifT H
      refine x_run tab hk (k := 4) (lv := []) (ks := [0, 1, 4, 22]) (e' := [(0, .pointer (some ⟨bp0, 0, none⟩)), (1, .int .u8 p1), (4, .bool (!t4.2.order_any)), (22, .bool (decide (p1 ≤ (57 : Int))))]) rfl trivial fun a hk => ?_
      refine wpListIn_nil ?_
      refine then_n ?_
      exact ⟨o20, (decide (p1 ≤ (57 : Int))), (by exact Kn.pick (ks := [0, 1, 4, 22]) hk rfl), hs, f12, f16, f9, H⟩
  · rw [b18] at hk H
    replace H := bifT H
    refine x_if hk (b := true) rfl ?_
    refine (show Code.wpIn _ _ _ _ _ _ _ from ?_)
    refine wpIn_ret ?_
    refine then_r ?_
    obtain rfl := Option.some.inj H
    exact x_retG hk (rs := []) (vs := []) rfl trivial ⟨cl w oi o [2, 3, 4] (fun l_ => if l_ = 1 then LF else if l_ = 2 then Lp0 else if l_ = 3 then Lp0_0 else if l_ = 4 then Lp0_1 else 0) o7, A10, c11, A14, c15, rfl, hs.closeF (Lm := [Lp0, Lp0_0, Lp0_1]) (Sh := []) hoa rfl (fun l_ => if l_ = 1 then LF else if l_ = 2 then Lp0 else if l_ = 3 then Lp0_0 else if l_ = 4 then Lp0_1 else 0), hs.closeM_ft (o := o) (ρ := fun l_ => if l_ = 1 then LF else if l_ = 2 then Lp0 else if l_ = 3 then Lp0_0 else if l_ = 4 then Lp0_1 else 0) f9 (lab_at hoa (i := 1) rfl) rfl, (CO.of_own (hs.closeM_ft (o := o) (ρ := fun l_ => if l_ = 1 then LF else if l_ = 2 then Lp0 else if l_ = 3 then Lp0_0 else if l_ = 4 then Lp0_1 else 0) f12 (lab_at hoa (i := 2) rfl) rfl) _ _), hc13, f16.conv (fun _ h_ => hs.closeM_ft (o := o) (ρ := fun l_ => if l_ = 1 then LF else if l_ = 2 then Lp0 else if l_ = 3 then Lp0_0 else if l_ = 4 then Lp0_1 else 0) h_ (lab_at hoa (i := 3) rfl) rfl) (fun _ h_ => hs.closeM_ft (o := o) (ρ := fun l_ => if l_ = 1 then LF else if l_ = 2 then Lp0 else if l_ = 3 then Lp0_0 else if l_ = 4 then Lp0_1 else 0) h_ (lab_at hoa (i := 0) rfl) rfl), hc17⟩

/-! internal/stringslite.HasPrefix -/
theorem stringslite_HasPrefix_calls (p0 : ByteArray) (p1 : ByteArray) (w : World) (o : Nat → Nat)   (r : Bool) (H : stringslite_HasPrefix p0 p1 = some r) :
    Calls Tryd.prog 43 #[.string p0, .string p1] w (Ret fun v_ w' => ∃ o' : Nat → Nat, v_ = .bool r ∧ St [] w o w' o') := by
  refine x_enter (vs := [.string p0, .string p1]) Tryd.func43 rfl rfl rfl fun a hk => ?_
  obtain ⟨o0, hs, h0⟩ := St.start w o
  clear h0
  rw [stringslite_HasPrefix] at H
  refine x_seq ?_
  refine wpIn_region_lit ?_
  refine x_run tab hk (k := 1) (lv := []) (ks := [0, 1]) (e' := [(0, .string p0), (1, .string p1)]) rfl trivial fun a hk => ?_
  refine wpListIn_nil ?_
  refine then_n ?_
  refine x_seq ?_
  refine wpIn_region_lit ?_
  refine x_run tab hk (k := 6) (lv := []) (ks := [0, 1, 10]) (e' := [(0, .string p0), (1, .string p1), (10, .bool (decide (((p0).size : Int) ≥ ((p1).size : Int))))]) rfl trivial fun a hk => ?_
  cases b1 : (decide (((p0).size : Int) ≥ ((p1).size : Int)))
  · rw [b1] at hk H
    replace H := bifF H
    refine x_run tab hk (k := 8) (lv := []) (ks := [4]) (e' := [(4, .bool false)]) rfl trivial fun a hk => ?_
    refine wpListIn_nil ?_
    refine then_n ?_
    refine wpIn_ret ?_
    obtain rfl := Option.some.inj H
    exact x_retG hk (rs := [.tmp 4]) (vs := [.bool false]) rfl ⟨rfl, trivial⟩ ⟨fun b_ => if b_ < w.heap.size then o b_ else (fun _ => 0) (o0 b_), rfl, hs.close0 o (fun _ => 0)⟩
  · rw [b1] at hk H
    replace H := bifT H
    obtain ⟨q2, H⟩ := ifS H
    obtain ⟨q3, H⟩ := ifS H
    refine x_run tab hk (k := 8) (lv := []) (ks := [4]) (e' := [(4, .bool (ByteArray.toList (ByteArray.extract p0 0 (Int.toNat ((p1).size : Int))) == ByteArray.toList p1))]) rfl ⟨q2, q3, trivial⟩ fun a hk => ?_
    refine wpListIn_nil ?_
    refine then_n ?_
    refine wpIn_ret ?_
    obtain rfl := Option.some.inj H
    exact x_retG hk (rs := [.tmp 4]) (vs := [.bool (ByteArray.toList (ByteArray.extract p0 0 (Int.toNat ((p1).size : Int))) == ByteArray.toList p1)]) rfl ⟨rfl, trivial⟩ ⟨fun b_ => if b_ < w.heap.size then o b_ else (fun _ => 0) (o0 b_), rfl, hs.close0 o (fun _ => 0)⟩

/-! internal/stringslite.CutPrefix -/
theorem stringslite_CutPrefix_calls (p0 : ByteArray) (p1 : ByteArray) (w : World) (o : Nat → Nat)   (r : ByteArray × Bool) (H : stringslite_CutPrefix p0 p1 = some r) :
    Calls Tryd.prog 41 #[.string p0, .string p1] w (Ret fun v_ w' => ∃ o' : Nat → Nat, v_ = .tuple #[.string r.1, .bool r.2] ∧ St [] w o w' o') := by
  refine x_enter (vs := [.string p0, .string p1]) Tryd.func41 rfl rfl rfl fun a hk => ?_
  obtain ⟨o0, hs, h0⟩ := St.start w o
  clear h0
  rw [stringslite_CutPrefix] at H
  refine x_seq ?_
  refine wpIn_region_lit ?_
  refine x_run tab hk (k := 2) (lv := []) (ks := [0, 1]) (e' := [(0, .string p0), (1, .string p1)]) rfl trivial fun a hk => ?_
  refine wpListIn_nil ?_
  refine then_n ?_
  refine x_seq ?_
  refine x_seq ?_
  refine wpIn_region_lit ?_
  refine x_run tab hk (k := 2) (lv := []) (ks := [0, 1, 6, 7]) (e' := [(0, .string p0), (1, .string p1), (6, .string p0), (7, .string p1)]) rfl trivial fun a hk => ?_
  refine x_op hk rfl ?_
  obtain ⟨t4, hc5, H⟩ := bindS H
  refine op_call hk ent_43 (vs := [.string p0, .string p1]) rfl (stringslite_HasPrefix_calls p0 p1 _ o0    _ hc5) ?_
  rintro _ w6 ⟨o7, rfl, st8⟩
  replace hs := hs.loc0 st8 (by decide)
  have hk := hk.put 8 (.bool t4) rfl
  refine x_run tab hk (k := 1) (lv := []) (ks := [0, 1, 9]) (e' := [(0, .string p0), (1, .string p1), (9, .bool (!t4))]) rfl trivial fun a hk => ?_
  refine wpListIn_nil ?_
  refine then_n ?_
  cases b9 : (!t4)
  · rw [b9] at hk H
    replace H := bifF H
    refine x_if hk (b := false) rfl ?_
    refine (show Code.wpIn _ _ _ _ _ _ _ from ?_)
    refine wpIn_skip ?_
    refine then_n ?_
    refine x_seq ?_
    refine wpIn_region_lit ?_
    obtain ⟨q10, H⟩ := ifS H
    obtain ⟨q11, H⟩ := ifS H
    refine x_run tab hk (k := 6) (lv := []) (ks := [4, 5]) (e' := [(4, .string (ByteArray.extract p0 (Int.toNat ((p1).size : Int)) (p0).size)), (5, .bool true)]) rfl ⟨q10, q11, trivial⟩ fun a hk => ?_
    refine wpListIn_nil ?_
    refine then_n ?_
    refine wpIn_ret ?_
    obtain rfl := Option.some.inj H
    exact x_retG hk (rs := [.tmp 4, .tmp 5]) (vs := [.string (ByteArray.extract p0 (Int.toNat ((p1).size : Int)) (p0).size), .bool true]) rfl ⟨rfl, rfl, trivial⟩ ⟨fun b_ => if b_ < w.heap.size then o b_ else (fun _ => 0) (o7 b_), rfl, hs.close0 o (fun _ => 0)⟩
  · rw [b9] at hk H
    replace H := bifT H
    refine x_if hk (b := true) rfl ?_
    refine (show Code.wpIn _ _ _ _ _ _ _ from ?_)
    refine x_seq ?_
    refine wpIn_region_lit ?_
    refine x_run tab hk (k := 3) (lv := []) (ks := [4, 5]) (e' := [(4, .string p0), (5, .bool false)]) rfl trivial fun a hk => ?_
    refine wpListIn_nil ?_
    refine then_n ?_
    refine wpIn_ret ?_
    refine then_r ?_
    obtain rfl := Option.some.inj H
    exact x_retG hk (rs := [.tmp 4, .tmp 5]) (vs := [.string p0, .bool false]) rfl ⟨rfl, rfl, trivial⟩ ⟨fun b_ => if b_ < w.heap.size then o b_ else (fun _ => 0) (o7 b_), rfl, hs.close0 o (fun _ => 0)⟩

/-! strings.CutPrefix -/
theorem strings_CutPrefix_calls (p0 : ByteArray) (p1 : ByteArray) (w : World) (o : Nat → Nat)   (r : ByteArray × Bool) (H : strings_CutPrefix p0 p1 = some r) :
    Calls Tryd.prog 38 #[.string p0, .string p1] w (Ret fun v_ w' => ∃ o' : Nat → Nat, v_ = .tuple #[.string r.1, .bool r.2] ∧ St [] w o w' o') := by
  refine x_enter (vs := [.string p0, .string p1]) Tryd.func38 rfl rfl rfl fun a hk => ?_
  obtain ⟨o0, hs, h0⟩ := St.start w o
  clear h0
  rw [strings_CutPrefix] at H
  refine x_seq ?_
  refine wpIn_region_lit ?_
  refine x_run tab hk (k := 2) (lv := []) (ks := [0, 1]) (e' := [(0, .string p0), (1, .string p1)]) rfl trivial fun a hk => ?_
  refine wpListIn_nil ?_
  refine then_n ?_
  refine x_seq ?_
  refine wpIn_region_lit ?_
  refine x_run tab hk (k := 2) (lv := []) (ks := [6, 7]) (e' := [(6, .string p0), (7, .string p1)]) rfl trivial fun a hk => ?_
  refine x_op hk rfl ?_
  obtain ⟨t4, hc5, H⟩ := bindS H
  refine op_call hk ent_41 (vs := [.string p0, .string p1]) rfl (stringslite_CutPrefix_calls p0 p1 _ o0    _ hc5) ?_
  rintro _ w6 ⟨o7, rfl, st8⟩
  replace hs := hs.loc0 st8 (by decide)
  have hk := hk.put 8 (.tuple #[.string t4.1, .bool t4.2]) rfl
  refine x_run tab hk (k := 4) (lv := []) (ks := [4, 5]) (e' := [(4, .string t4.1), (5, .bool t4.2)]) rfl trivial fun a hk => ?_
  refine wpListIn_nil ?_
  refine then_n ?_
  refine wpIn_ret ?_
  obtain rfl := Option.some.inj H
  exact x_retG hk (rs := [.tmp 4, .tmp 5]) (vs := [.string t4.1, .bool t4.2]) rfl ⟨rfl, rfl, trivial⟩ ⟨fun b_ => if b_ < w.heap.size then o b_ else (fun _ => 0) (o7 b_), rfl, hs.close0 o (fun _ => 0)⟩

/-! (*tidewrack/seq.Parser).over -/
theorem seq_Parser_over_calls (K : Nat) (bp0 : Nat) (Ap0_0 : Option Addr) (cp0_0 : Nat) (Ap0_1 : Option Addr) (cp0_1 : Nat) (p0 : T30) (w : World) (o : Nat → Nat) (LF : Nat) (Lp0 : Nat) (hp0 : Ft (Bx bp0 31 [.int .i64 p0.state, .bool p0.order_private_, .bool p0.order_wrong, .bool p0.order_any, .bool p0.order_some, .int .i64 p0.order_n, .slice Ap0_0 (p0.order_nums).length cp0_0, .string p0.text, .int .u8 p0.runes_Lead, .int .i32 p0.runes_Rune, .int .i64 p0.runes_Need, .slice Ap0_1 (p0.out).length cp0_1]) w o Lp0) (Lp0_0 : Nat) (hp0_0 : CO (encInt .i64) 3 Ap0_0 cp0_0 p0.order_nums (p0.state == (3 : Int)) w o Lp0_0 LF) (hcp0_0 : (p0.order_nums).length ≤ cp0_0) (Lp0_1 : Nat) (hp0_1 : NOwn dT37 38 Ap0_1 cp0_1 p0.out w o Lp0_1 LF) (hcp0_1 : (p0.out).length ≤ cp0_1) (hd0 : ([LF, Lp0, Lp0_0, Lp0_1] : List Nat).Nodup) (r : T30) (H : seq_Parser_over K p0 = some r) :
    Calls Tryd.prog 30 #[.pointer (some ⟨bp0, 0, none⟩)] w (Ret fun v_ w' => ∃ o' : Nat → Nat, ∃ A0 : Option Addr, ∃ c0 : Nat, ∃ A1 : Option Addr, ∃ c1 : Nat, v_ = .tuple #[] ∧ St [Lp0, Lp0_0, Lp0_1] w o w' o' ∧ Ft (Bx bp0 31 [.int .i64 r.state, .bool r.order_private_, .bool r.order_wrong, .bool r.order_any, .bool r.order_some, .int .i64 r.order_n, .slice A0 (r.order_nums).length c0, .string r.text, .int .u8 r.runes_Lead, .int .i32 r.runes_Rune, .int .i64 r.runes_Need, .slice A1 (r.out).length c1]) w' o' Lp0 ∧ CO (encInt .i64) 3 A0 c0 (r.order_nums) (r.state == (3 : Int)) w' o' Lp0_0 LF ∧ (r.order_nums).length ≤ c0 ∧ NOwn dT37 38 A1 c1 r.out w' o' Lp0_1 LF ∧ (r.out).length ≤ c1) := by
  refine x_enter (vs := [.pointer (some ⟨bp0, 0, none⟩)]) Tryd.func30 rfl rfl rfl fun a hk => ?_
  obtain ⟨oi, hs0, h0, h1, hob, hoz, hoa⟩ := St.startM2 w o (m := 4) hd0 rfl
  have hs := hs0 [2, 3, 4]
  have f900000 := hp0_0.conv (fun _ h_ => h1 2 3 h_ rfl rfl) (fun _ h_ => h1 0 1 h_ rfl rfl)
  have f900001 := hp0_1.conv (fun _ h_ => h1 3 4 h_ rfl rfl) (fun _ h_ => h1 0 1 h_ rfl rfl)
  have f900019 := h1 1 2 hp0 rfl rfl
  clear h0 h1 hs0
  rw [seq_Parser_over] at H
  refine x_seq ?_
  refine wpIn_region_lit ?_
  refine x_run tab hk (k := 3) (lv := []) (ks := [0, 8]) (e' := [(0, .pointer (some ⟨bp0, 0, none⟩)), (8, .pointer (some ⟨bp0, 0, none⟩))]) rfl trivial fun a hk => ?_
  refine x_op hk rfl ?_
  refine op_store tab hk (t := 3) (v := .int .i64 0) (b := bp0) (k := 0) (cs' := [.int .i64 0, .bool p0.order_private_, .bool p0.order_wrong, .bool p0.order_any, .bool p0.order_some, .int .i64 p0.order_n, .slice Ap0_0 (p0.order_nums).length cp0_0, .string p0.text, .int .u8 p0.runes_Lead, .int .i32 p0.runes_Rune, .int .i64 p0.runes_Need, .slice Ap0_1 (p0.out).length cp0_1]) rfl rfl rfl rfl rfl rfl f900019 rfl rfl fun w1 o2 st3 f900019_ => ?_
  replace f900000 := f900000.st st3 (by decide)
  replace f900001 := f900001.st st3 (by decide)
  replace hs := hs.locQ st3 hob rfl
  replace f900019 := f900019_
  replace f900000 := f900000.weak
  refine wpListIn_nil ?_
  refine then_n ?_
  refine x_seq ?_
  refine wpIn_region_lit ?_
  refine x_op hk rfl ?_
  refine op_slice (o := o2) tab hk (vs := [.string (⟨#[48, 59]⟩ : ByteArray), .string (⟨#[50, 59]⟩ : ByteArray)]) (cs := [.string (⟨#[48, 59]⟩ : ByteArray), .string (⟨#[50, 59]⟩ : ByteArray)]) rfl rfl rfl rfl rfl rfl rfl rfl rfl 5 fun bx7 w4 o5 st6 f8 => ?_
  replace f900000 := f900000.st st6 (by decide)
  replace f900001 := f900001.st st6 (by decide)
  replace f900019 := f900019.st st6 (by decide)
  replace hs := hs.locQ st6 hob rfl
  have f9 : Ft (Own encStr 9 (.slice (some ⟨bx7, 0, none⟩) (([(⟨#[48, 59]⟩ : ByteArray), (⟨#[50, 59]⟩ : ByteArray)] : List ByteArray)).length 2) ([(⟨#[48, 59]⟩ : ByteArray), (⟨#[50, 59]⟩ : ByteArray)] : List ByteArray)) w4 o5 5 := f8.imp fun _ h_ => Own.of_box h_ rfl (by simp)
  have hk := hk.put 9 (.slice (some ⟨bx7, 0, none⟩) (([(⟨#[48, 59]⟩ : ByteArray), (⟨#[50, 59]⟩ : ByteArray)] : List ByteArray)).length 2) rfl
  refine x_run tab hk (k := 2) (lv := []) (ks := [0, 9, 10, 11]) (e' := [(0, .pointer (some ⟨bp0, 0, none⟩)), (9, .slice (some ⟨bx7, 0, none⟩) (([(⟨#[48, 59]⟩ : ByteArray), (⟨#[50, 59]⟩ : ByteArray)] : List ByteArray)).length 2), (10, .int .i64 ((([(⟨#[48, 59]⟩ : ByteArray), (⟨#[50, 59]⟩ : ByteArray)] : List ByteArray)).length : Int)), (11, .int .i64 0)]) rfl trivial fun a hk => ?_
  refine wpListIn_nil ?_
  refine then_n ?_
  refine wpIn_block ?_
  refine x_loop (fun j_ a_ w_ => ∃ o41 : Nat → Nat, ∃ x42 : Int, ∃ x43 : Bool, ∃ x44 : Bool, ∃ x45 : Bool, ∃ x46 : Bool, ∃ x47 : Int, ∃ A48 : Option Addr, ∃ c49 : Nat, ∃ l50 : List Int, ∃ x53 : ByteArray, ∃ x54 : Int, ∃ x55 : Int, ∃ x56 : Int, ∃ A57 : Option Addr, ∃ c58 : Nat, ∃ l59 : List T37, ∃ x62 : Int, Kn 30 a_ [(0, .pointer (some ⟨bp0, 0, none⟩)), (9, .slice (some ⟨bx7, 0, none⟩) (([(⟨#[48, 59]⟩ : ByteArray), (⟨#[50, 59]⟩ : ByteArray)] : List ByteArray)).length 2), (10, .int .i64 ((([(⟨#[48, 59]⟩ : ByteArray), (⟨#[50, 59]⟩ : ByteArray)] : List ByteArray)).length : Int)), (11, .int .i64 x62)] ∧ St [2, 3, 4] w oi w_ o41 ∧ CO (encInt .i64) 3 A48 c49 l50 (x42 == (3 : Int)) w_ o41 3 1 ∧ NOwn dT37 38 A57 c58 l59 w_ o41 4 1 ∧ Ft (Own encStr 9 (.slice (some ⟨bx7, 0, none⟩) (([(⟨#[48, 59]⟩ : ByteArray), (⟨#[50, 59]⟩ : ByteArray)] : List ByteArray)).length 2) ([(⟨#[48, 59]⟩ : ByteArray), (⟨#[50, 59]⟩ : ByteArray)] : List ByteArray)) w_ o41 7 ∧ Ft (Bx bp0 31 [.int .i64 x42, .bool x43, .bool x44, .bool x45, .bool x46, .int .i64 x47, .slice A48 (l50).length c49, .string x53, .int .u8 x54, .int .i32 x55, .int .i64 x56, .slice A57 (l59).length c58]) w_ o41 2 ∧ (l50).length ≤ c49 ∧ (l59).length ≤ c58 ∧ seq_Parser_over_l1 j_ x42 x43 x44 x45 x46 x47 l50 x53 x54 x55 x56 l59 x62 = some r) (k := K) ⟨(fun b_ => (fun l_ => if l_ = 5 then 7 else l_) (o5 b_)), 0, p0.order_private_, p0.order_wrong, p0.order_any, p0.order_some, p0.order_n, Ap0_0, cp0_0, p0.order_nums, p0.text, p0.runes_Lead, p0.runes_Rune, p0.runes_Need, Ap0_1, cp0_1, p0.out, 0, (by exact Kn.pick (ks := [0, 9, 10, 11]) hk rfl), (hs.relabM hob (fun l_ => if l_ = 5 then 7 else l_) (by decide)), (f900000.relab (fun l_ => if l_ = 5 then 7 else l_) rfl), (f900001.relab (fun l_ => if l_ = 5 then 7 else l_) rfl), (f9.relab (fun l_ => if l_ = 5 then 7 else l_) rfl), (f900019.relab (fun l_ => if l_ = 5 then 7 else l_) rfl), hcp0_0, hcp0_1, H⟩ (by rintro _ _ ⟨_, _, _, _, _, _, _, _, _, _, _, _, _, _, _, _, _, _, _, _, _, _, _, _, _, _, H_⟩; exact absurd (show (none : Option T30) = some r from H_) (by simp)) ?_
  rintro k92 a w91 ⟨o41, x42, x43, x44, x45, x46, x47, A48, c49, l50, x53, x54, x55, x56, A57, c58, l59, x62, hk, hs, f51, f60, f9, f900019, hc52, hc61, H⟩
  rw [seq_Parser_over_l1] at H
  obtain ⟨lp93, hlp94⟩ : ∃ lp_, lp_ = seq_Parser_over_l1 k92 := ⟨_, rfl⟩
  rw [← hlp94] at H
  refine x_seq ?_
  refine wpIn_region_lit ?_
  refine x_run tab hk (k := 1) (lv := []) (ks := [0, 9, 10, 11, 12]) (e' := [(0, .pointer (some ⟨bp0, 0, none⟩)), (9, .slice (some ⟨bx7, 0, none⟩) (([(⟨#[48, 59]⟩ : ByteArray), (⟨#[50, 59]⟩ : ByteArray)] : List ByteArray)).length 2), (10, .int .i64 ((([(⟨#[48, 59]⟩ : ByteArray), (⟨#[50, 59]⟩ : ByteArray)] : List ByteArray)).length : Int)), (11, .int .i64 x62), (12, .bool (decide (x62 < ((([(⟨#[48, 59]⟩ : ByteArray), (⟨#[50, 59]⟩ : ByteArray)] : List ByteArray)).length : Int))))]) rfl trivial fun a hk => ?_
  refine wpListIn_nil ?_
  refine then_n ?_
  refine x_seq ?_
  cases b95 : (decide (x62 < ((([(⟨#[48, 59]⟩ : ByteArray), (⟨#[50, 59]⟩ : ByteArray)] : List ByteArray)).length : Int)))
  · rw [b95] at hk H
    replace H := bifF H
    refine x_if hk (b := false) rfl ?_
    refine (show Code.wpIn _ _ _ _ _ _ _ from ?_)
    refine wpIn_exit ?_
    refine then_x ?_
    refine then_x ?_
    refine blk_x ?_
    obtain rfl := Option.some.inj H
    exact x_endG hk (rs := []) (vs := []) rfl trivial ⟨cl w oi o [2, 3, 4] (fun l_ => if l_ = 1 then LF else if l_ = 2 then Lp0 else if l_ = 3 then Lp0_0 else if l_ = 4 then Lp0_1 else 0) o41, A48, c49, A57, c58, rfl, hs.closeF (Lm := [Lp0, Lp0_0, Lp0_1]) (Sh := []) hoa rfl (fun l_ => if l_ = 1 then LF else if l_ = 2 then Lp0 else if l_ = 3 then Lp0_0 else if l_ = 4 then Lp0_1 else 0), hs.closeM_ft (o := o) (ρ := fun l_ => if l_ = 1 then LF else if l_ = 2 then Lp0 else if l_ = 3 then Lp0_0 else if l_ = 4 then Lp0_1 else 0) f900019 (lab_at hoa (i := 1) rfl) rfl, f51.conv (fun _ h_ => hs.closeM_ft (o := o) (ρ := fun l_ => if l_ = 1 then LF else if l_ = 2 then Lp0 else if l_ = 3 then Lp0_0 else if l_ = 4 then Lp0_1 else 0) h_ (lab_at hoa (i := 2) rfl) rfl) (fun _ h_ => hs.closeM_ft (o := o) (ρ := fun l_ => if l_ = 1 then LF else if l_ = 2 then Lp0 else if l_ = 3 then Lp0_0 else if l_ = 4 then Lp0_1 else 0) h_ (lab_at hoa (i := 0) rfl) rfl), hc52, f60.conv (fun _ h_ => hs.closeM_ft (o := o) (ρ := fun l_ => if l_ = 1 then LF else if l_ = 2 then Lp0 else if l_ = 3 then Lp0_0 else if l_ = 4 then Lp0_1 else 0) h_ (lab_at hoa (i := 3) rfl) rfl) (fun _ h_ => hs.closeM_ft (o := o) (ρ := fun l_ => if l_ = 1 then LF else if l_ = 2 then Lp0 else if l_ = 3 then Lp0_0 else if l_ = 4 then Lp0_1 else 0) h_ (lab_at hoa (i := 0) rfl) rfl), hc61⟩
  · rw [b95] at hk H
    replace H := bifT H
    refine x_if hk (b := true) rfl ?_
    refine (show Code.wpIn _ _ _ _ _ _ _ from ?_)
    refine wpIn_skip ?_
    refine then_n ?_
    refine x_seq ?_
    refine wpIn_block ?_
    refine x_seq ?_
    refine wpIn_region_lit ?_
    obtain ⟨q96, H⟩ := ifS H
    refine x_run tab hk (k := 3) (lv := [.string (rdD (⟨#[]⟩ : ByteArray) ([(⟨#[48, 59]⟩ : ByteArray), (⟨#[50, 59]⟩ : ByteArray)] : List ByteArray) x62)]) (ks := [0, 3, 9, 10, 11]) (e' := [(0, .pointer (some ⟨bp0, 0, none⟩)), (3, .string (rdD (⟨#[]⟩ : ByteArray) ([(⟨#[48, 59]⟩ : ByteArray), (⟨#[50, 59]⟩ : ByteArray)] : List ByteArray) x62)), (9, .slice (some ⟨bx7, 0, none⟩) (([(⟨#[48, 59]⟩ : ByteArray), (⟨#[50, 59]⟩ : ByteArray)] : List ByteArray)).length 2), (10, .int .i64 ((([(⟨#[48, 59]⟩ : ByteArray), (⟨#[50, 59]⟩ : ByteArray)] : List ByteArray)).length : Int)), (11, .int .i64 x62)]) rfl ⟨q96, (load1 tab rfl (RdC.at0 (E := encStr) (d := (⟨#[]⟩ : ByteArray)) (i := x62) (Own.rd f9.now) q96 rfl)), trivial⟩ fun a hk => ?_
    refine wpListIn_nil ?_
    refine then_n ?_
    refine x_seq ?_
    refine wpIn_region_lit ?_
    refine x_run tab hk (k := 5) (lv := [.string x53]) (ks := [0, 9, 10, 11, 19, 20]) (e' := [(0, .pointer (some ⟨bp0, 0, none⟩)), (9, .slice (some ⟨bx7, 0, none⟩) (([(⟨#[48, 59]⟩ : ByteArray), (⟨#[50, 59]⟩ : ByteArray)] : List ByteArray)).length 2), (10, .int .i64 ((([(⟨#[48, 59]⟩ : ByteArray), (⟨#[50, 59]⟩ : ByteArray)] : List ByteArray)).length : Int)), (11, .int .i64 x62), (19, .string x53), (20, .string (rdD (⟨#[]⟩ : ByteArray) ([(⟨#[48, 59]⟩ : ByteArray), (⟨#[50, 59]⟩ : ByteArray)] : List ByteArray) x62))]) rfl ⟨(load1 tab rfl ((Bx.cell f900019.now 7).trans rfl)), trivial⟩ fun a hk => ?_
    refine x_op hk rfl ?_
    obtain ⟨t100, hc101, H⟩ := bindS H
    refine op_call hk ent_38 (vs := [.string x53, .string (rdD (⟨#[]⟩ : ByteArray) ([(⟨#[48, 59]⟩ : ByteArray), (⟨#[50, 59]⟩ : ByteArray)] : List ByteArray) x62)]) rfl (strings_CutPrefix_calls x53 (rdD (⟨#[]⟩ : ByteArray) ([(⟨#[48, 59]⟩ : ByteArray), (⟨#[50, 59]⟩ : ByteArray)] : List ByteArray) x62) _ o41    _ hc101) ?_
    rintro _ w102 ⟨o103, rfl, st104⟩
    replace f51 := f51.st st104 (by decide)
    replace f60 := f60.st st104 (by decide)
    replace f9 := f9.st st104 (by decide)
    replace f900019 := f900019.st st104 (by decide)
    replace hs := hs.locQ st104 hob rfl
    have hk := hk.put 21 (.tuple #[.string t100.1, .bool t100.2]) rfl
    refine x_run tab hk (k := 5) (lv := []) (ks := [0, 4, 5, 9, 10, 11]) (e' := [(0, .pointer (some ⟨bp0, 0, none⟩)), (4, .string t100.1), (5, .bool t100.2), (9, .slice (some ⟨bx7, 0, none⟩) (([(⟨#[48, 59]⟩ : ByteArray), (⟨#[50, 59]⟩ : ByteArray)] : List ByteArray)).length 2), (10, .int .i64 ((([(⟨#[48, 59]⟩ : ByteArray), (⟨#[50, 59]⟩ : ByteArray)] : List ByteArray)).length : Int)), (11, .int .i64 x62)]) rfl trivial fun a hk => ?_
    refine wpListIn_nil ?_
    refine then_n ?_
    refine x_seq ?_
    refine wpIn_region_lit ?_
    refine x_run tab hk (k := 1) (lv := []) (ks := [0, 4, 9, 10, 11, 24]) (e' := [(0, .pointer (some ⟨bp0, 0, none⟩)), (4, .string t100.1), (9, .slice (some ⟨bx7, 0, none⟩) (([(⟨#[48, 59]⟩ : ByteArray), (⟨#[50, 59]⟩ : ByteArray)] : List ByteArray)).length 2), (10, .int .i64 ((([(⟨#[48, 59]⟩ : ByteArray), (⟨#[50, 59]⟩ : ByteArray)] : List ByteArray)).length : Int)), (11, .int .i64 x62), (24, .bool t100.2)]) rfl trivial fun a hk => ?_
    refine wpListIn_nil ?_
    refine then_n ?_
    cases b105 : t100.2
    · rw [b105] at hk H
      replace H := bifF H
      refine x_if hk (b := false) rfl ?_
      refine (show Code.wpIn _ _ _ _ _ _ _ from ?_)
      refine wpIn_skip ?_
      refine blk_n ?_
      refine then_n ?_
      refine wpIn_region_lit ?_
      refine x_run tab hk (k := 2) (lv := []) (ks := [0, 9, 10, 11]) (e' := [(0, .pointer (some ⟨bp0, 0, none⟩)), (9, .slice (some ⟨bx7, 0, none⟩) (([(⟨#[48, 59]⟩ : ByteArray), (⟨#[50, 59]⟩ : ByteArray)] : List ByteArray)).length 2), (10, .int .i64 ((([(⟨#[48, 59]⟩ : ByteArray), (⟨#[50, 59]⟩ : ByteArray)] : List ByteArray)).length : Int)), (11, .int .i64 (IntKind.wrap .i64 (x62 + 1)))]) rfl trivial fun a hk => ?_
      refine wpListIn_nil ?_
      refine then_n ?_
      exact ⟨k92, Nat.le_refl _, o103, x42, x43, x44, x45, x46, x47, A48, c49, l50, x53, x54, x55, x56, A57, c58, l59, (IntKind.wrap .i64 (x62 + 1)), (by exact Kn.pick (ks := [0, 9, 10, 11]) hk rfl), hs, f51, f60, f9, f900019, hc52, hc61, (hlp94 ▸ H)⟩
    · rw [b105] at hk H
      replace H := bifT H
      refine x_if hk (b := true) rfl ?_
      refine (show Code.wpIn _ _ _ _ _ _ _ from ?_)
      refine wpIn_region_lit ?_
      refine x_run tab hk (k := 3) (lv := []) (ks := [0, 9, 10, 11, 25, 27]) (e' := [(0, .pointer (some ⟨bp0, 0, none⟩)), (9, .slice (some ⟨bx7, 0, none⟩) (([(⟨#[48, 59]⟩ : ByteArray), (⟨#[50, 59]⟩ : ByteArray)] : List ByteArray)).length 2), (10, .int .i64 ((([(⟨#[48, 59]⟩ : ByteArray), (⟨#[50, 59]⟩ : ByteArray)] : List ByteArray)).length : Int)), (11, .int .i64 x62), (25, .pointer (some ⟨bp0, 0, none⟩)), (27, .agg #[.int .i64 5, .int .i32 0, .int .u8 0, .bool false, .slice none 0 0, .string t100.1])]) rfl trivial fun a hk => ?_
      refine x_op hk rfl ?_
      obtain ⟨t109, hc110, H⟩ := bindS H
      refine op_call hk ent_35 (vs := [.pointer (some ⟨bp0, 0, none⟩), .agg #[.int .i64 5, .int .i32 0, .int .u8 0, .bool false, .slice none 0 0, .string t100.1]]) rfl (seq_Parser_tell_calls bp0 A48 c49 A57 c58 (⟨x42, x43, x44, x45, x46, x47, l50, x53, x54, x55, x56, l59⟩ : T30) none 0 (⟨5, 0, 0, false, ([] : List Int), t100.1⟩ : T37) _ o103 1 2 f900019 3 f51 hc52 4 f60 hc61 (Ft.of_all (fun _ => RdC.nilr _ _ _) _ _ _) (Nat.le_refl _) (by decide)   _ hc110) ?_
      rintro _ w111 ⟨o112, A115, c116, A119, c120, rfl, st113, f114, f117, hc118, f121, hc122⟩
      replace f9 := f9.st st113 (by decide)
      replace hs := hs.locQ st113 hob rfl
      have hk := hk.put 28 (.tuple #[]) rfl
      refine wpListIn_nil ?_
      refine blk_n ?_
      refine then_n ?_
      refine wpIn_region_lit ?_
      refine x_run tab hk (k := 2) (lv := []) (ks := [0, 9, 10, 11]) (e' := [(0, .pointer (some ⟨bp0, 0, none⟩)), (9, .slice (some ⟨bx7, 0, none⟩) (([(⟨#[48, 59]⟩ : ByteArray), (⟨#[50, 59]⟩ : ByteArray)] : List ByteArray)).length 2), (10, .int .i64 ((([(⟨#[48, 59]⟩ : ByteArray), (⟨#[50, 59]⟩ : ByteArray)] : List ByteArray)).length : Int)), (11, .int .i64 (IntKind.wrap .i64 (x62 + 1)))]) rfl trivial fun a hk => ?_
      refine wpListIn_nil ?_
      refine then_n ?_
      exact ⟨k92, Nat.le_refl _, o112, t109.state, t109.order_private_, t109.order_wrong, t109.order_any, t109.order_some, t109.order_n, A115, c116, t109.order_nums, t109.text, t109.runes_Lead, t109.runes_Rune, t109.runes_Need, A119, c120, t109.out, (IntKind.wrap .i64 (x62 + 1)), (by exact Kn.pick (ks := [0, 9, 10, 11]) hk rfl), hs, f117, f121, f9, f114, hc118, hc122, (hlp94 ▸ H)⟩

/-! (*tidewrack/seq.Parser).onTitle -/
theorem seq_Parser_onTitle_calls (K : Nat) (bp0 : Nat) (Ap0_0 : Option Addr) (cp0_0 : Nat) (Ap0_1 : Option Addr) (cp0_1 : Nat) (p0 : T30) (p1 : Int) (w : World) (o : Nat → Nat) (LF : Nat) (Lp0 : Nat) (hp0 : Ft (Bx bp0 31 [.int .i64 p0.state, .bool p0.order_private_, .bool p0.order_wrong, .bool p0.order_any, .bool p0.order_some, .int .i64 p0.order_n, .slice Ap0_0 (p0.order_nums).length cp0_0, .string p0.text, .int .u8 p0.runes_Lead, .int .i32 p0.runes_Rune, .int .i64 p0.runes_Need, .slice Ap0_1 (p0.out).length cp0_1]) w o Lp0) (Lp0_0 : Nat) (hp0_0 : CO (encInt .i64) 3 Ap0_0 cp0_0 p0.order_nums (p0.state == (3 : Int)) w o Lp0_0 LF) (hcp0_0 : (p0.order_nums).length ≤ cp0_0) (Lp0_1 : Nat) (hp0_1 : NOwn dT37 38 Ap0_1 cp0_1 p0.out w o Lp0_1 LF) (hcp0_1 : (p0.out).length ≤ cp0_1) (hd0 : ([LF, Lp0, Lp0_0, Lp0_1] : List Nat).Nodup) (r : T30) (H : seq_Parser_onTitle K p0 p1 = some r) :
    Calls Tryd.prog 29 #[.pointer (some ⟨bp0, 0, none⟩), .int .u8 p1] w (Ret fun v_ w' => ∃ o' : Nat → Nat, ∃ A0 : Option Addr, ∃ c0 : Nat, ∃ A1 : Option Addr, ∃ c1 : Nat, v_ = .tuple #[] ∧ St [Lp0, Lp0_0, Lp0_1] w o w' o' ∧ Ft (Bx bp0 31 [.int .i64 r.state, .bool r.order_private_, .bool r.order_wrong, .bool r.order_any, .bool r.order_some, .int .i64 r.order_n, .slice A0 (r.order_nums).length c0, .string r.text, .int .u8 r.runes_Lead, .int .i32 r.runes_Rune, .int .i64 r.runes_Need, .slice A1 (r.out).length c1]) w' o' Lp0 ∧ CO (encInt .i64) 3 A0 c0 (r.order_nums) (r.state == (3 : Int)) w' o' Lp0_0 LF ∧ (r.order_nums).length ≤ c0 ∧ NOwn dT37 38 A1 c1 r.out w' o' Lp0_1 LF ∧ (r.out).length ≤ c1) := by
  refine x_enter (vs := [.pointer (some ⟨bp0, 0, none⟩), .int .u8 p1]) Tryd.func29 rfl rfl rfl fun a hk => ?_
  obtain ⟨oi, hs0, h0, h1, hob, hoz, hoa⟩ := St.startM2 w o (m := 4) hd0 rfl
  have hs := hs0 [2, 3, 4]
  have f900000 := hp0_0.conv (fun _ h_ => h1 2 3 h_ rfl rfl) (fun _ h_ => h1 0 1 h_ rfl rfl)
  have f900001 := hp0_1.conv (fun _ h_ => h1 3 4 h_ rfl rfl) (fun _ h_ => h1 0 1 h_ rfl rfl)
  have f900019 := h1 1 2 hp0 rfl rfl
  clear h0 h1 hs0
  rw [seq_Parser_onTitle] at H
  refine wpIn_block ?_
  refine x_seq ?_
  refine wpIn_region_lit ?_
  refine x_run tab hk (k := 3) (lv := []) (ks := [0, 1, 4]) (e' := [(0, .pointer (some ⟨bp0, 0, none⟩)), (1, .int .u8 p1), (4, .bool (p1 == (7 : Int)))]) rfl trivial fun a hk => ?_
  refine wpListIn_nil ?_
  refine then_n ?_
  cases b1 : (p1 == (7 : Int))
  · rw [b1] at hk H
    replace H := bifF H
    refine x_if hk (b := false) rfl ?_
    refine (show Code.wpIn _ _ _ _ _ _ _ from ?_)
    refine x_mid (fun a_ w_ => ∃ o9 : Nat → Nat, ∃ x10 : Bool, Kn 42 a_ [(0, .pointer (some ⟨bp0, 0, none⟩)), (1, .int .u8 p1), (9, .bool x10)] ∧ St [2, 3, 4] w oi w_ o9 ∧ CO (encInt .i64) 3 Ap0_0 cp0_0 p0.order_nums (p0.state == (3 : Int)) w_ o9 3 1 ∧ NOwn dT37 38 Ap0_1 cp0_1 p0.out w_ o9 4 1 ∧ Ft (Bx bp0 31 [.int .i64 p0.state, .bool p0.order_private_, .bool p0.order_wrong, .bool p0.order_any, .bool p0.order_some, .int .i64 p0.order_n, .slice Ap0_0 (p0.order_nums).length cp0_0, .string p0.text, .int .u8 p0.runes_Lead, .int .i32 p0.runes_Rune, .int .i64 p0.runes_Need, .slice Ap0_1 (p0.out).length cp0_1]) w_ o9 2 ∧ seq_Parser_onTitle_j1 p0 p1 x10 = some r) ?_ ?_
    rotate_left
    · rintro a w11 ⟨o9, x10, hk, hs, f900000, f900001, f900019, H⟩
      rw [seq_Parser_onTitle_j1] at H
      cases b12 : x10
      · rw [b12] at hk H
        replace H := bifF H
        refine x_if hk (b := false) rfl ?_
        refine (show Code.wpIn _ _ _ _ _ _ _ from ?_)
        refine x_seq ?_
        refine wpIn_region_lit ?_
        refine x_run tab hk (k := 3) (lv := []) (ks := [0, 1, 19]) (e' := [(0, .pointer (some ⟨bp0, 0, none⟩)), (1, .int .u8 p1), (19, .bool (p1 == (27 : Int)))]) rfl trivial fun a hk => ?_
        refine wpListIn_nil ?_
        refine then_n ?_
        cases b13 : (p1 == (27 : Int))
        · rw [b13] at hk H
          replace H := bifF H
          refine x_if hk (b := false) rfl ?_
          refine (show Code.wpIn _ _ _ _ _ _ _ from ?_)
          refine x_seq ?_
          refine wpIn_region_lit ?_
          refine x_run tab hk (k := 7) (lv := [.string p0.text]) (ks := [0, 1, 25]) (e' := [(0, .pointer (some ⟨bp0, 0, none⟩)), (1, .int .u8 p1), (25, .bool (decide (((p0.text).size : Int) < (200 : Int))))]) rfl ⟨(load1 tab rfl ((Bx.cell f900019.now 7).trans rfl)), trivial⟩ fun a hk => ?_
          refine wpListIn_nil ?_
          refine then_n ?_
          cases b14 : (decide (((p0.text).size : Int) < (200 : Int)))
          · rw [b14] at hk H
            replace H := bifF H
            refine x_if hk (b := false) rfl ?_
            refine (show Code.wpIn _ _ _ _ _ _ _ from ?_)
            refine wpIn_skip ?_
            refine blk_n ?_
            obtain rfl := Option.some.inj H
            exact x_endG hk (rs := []) (vs := []) rfl trivial ⟨cl w oi o [2, 3, 4] (fun l_ => if l_ = 1 then LF else if l_ = 2 then Lp0 else if l_ = 3 then Lp0_0 else if l_ = 4 then Lp0_1 else 0) o9, Ap0_0, cp0_0, Ap0_1, cp0_1, rfl, hs.closeF (Lm := [Lp0, Lp0_0, Lp0_1]) (Sh := []) hoa rfl (fun l_ => if l_ = 1 then LF else if l_ = 2 then Lp0 else if l_ = 3 then Lp0_0 else if l_ = 4 then Lp0_1 else 0), hs.closeM_ft (o := o) (ρ := fun l_ => if l_ = 1 then LF else if l_ = 2 then Lp0 else if l_ = 3 then Lp0_0 else if l_ = 4 then Lp0_1 else 0) f900019 (lab_at hoa (i := 1) rfl) rfl, f900000.conv (fun _ h_ => hs.closeM_ft (o := o) (ρ := fun l_ => if l_ = 1 then LF else if l_ = 2 then Lp0 else if l_ = 3 then Lp0_0 else if l_ = 4 then Lp0_1 else 0) h_ (lab_at hoa (i := 2) rfl) rfl) (fun _ h_ => hs.closeM_ft (o := o) (ρ := fun l_ => if l_ = 1 then LF else if l_ = 2 then Lp0 else if l_ = 3 then Lp0_0 else if l_ = 4 then Lp0_1 else 0) h_ (lab_at hoa (i := 0) rfl) rfl), hcp0_0, f900001.conv (fun _ h_ => hs.closeM_ft (o := o) (ρ := fun l_ => if l_ = 1 then LF else if l_ = 2 then Lp0 else if l_ = 3 then Lp0_0 else if l_ = 4 then Lp0_1 else 0) h_ (lab_at hoa (i := 3) rfl) rfl) (fun _ h_ => hs.closeM_ft (o := o) (ρ := fun l_ => if l_ = 1 then LF else if l_ = 2 then Lp0 else if l_ = 3 then Lp0_0 else if l_ = 4 then Lp0_1 else 0) h_ (lab_at hoa (i := 0) rfl) rfl), hcp0_1⟩
          · rw [b14] at hk H
            replace H := bifT H
            refine x_if hk (b := true) rfl ?_
            refine (show Code.wpIn _ _ _ _ _ _ _ from ?_)
            refine x_cut (fun a_ w_ => ∃ o136 : Nat → Nat, Kn 42 a_ [] ∧ St [2, 3, 4] w oi w_ o136 ∧ CO (encInt .i64) 3 Ap0_0 cp0_0 p0.order_nums (p0.state == (3 : Int)) w_ o136 3 1 ∧ NOwn dT37 38 Ap0_1 cp0_1 p0.out w_ o136 4 1 ∧ Ft (Bx bp0 31 [.int .i64 p0.state, .bool p0.order_private_, .bool p0.order_wrong, .bool p0.order_any, .bool p0.order_some, .int .i64 p0.order_n, .slice Ap0_0 (p0.order_nums).length cp0_0, .string (p0.text ++ (strOfNums ([p1] : List Int))), .int .u8 p0.runes_Lead, .int .i32 p0.runes_Rune, .int .i64 p0.runes_Need, .slice Ap0_1 (p0.out).length cp0_1]) w_ o136 2 ∧ seq_Parser_onTitle_j2 p0 p1 = some r) ?_ ?_
            rotate_left
            · rintro a w137 ⟨o136, hk, hs, f900000, f900001, f900019, H⟩
              rw [seq_Parser_onTitle_j2] at H
              refine blk_n ?_
              obtain rfl := Option.some.inj H
              exact x_endG hk (rs := []) (vs := []) rfl trivial ⟨cl w oi o [2, 3, 4] (fun l_ => if l_ = 1 then LF else if l_ = 2 then Lp0 else if l_ = 3 then Lp0_0 else if l_ = 4 then Lp0_1 else 0) o136, Ap0_0, cp0_0, Ap0_1, cp0_1, rfl, hs.closeF (Lm := [Lp0, Lp0_0, Lp0_1]) (Sh := []) hoa rfl (fun l_ => if l_ = 1 then LF else if l_ = 2 then Lp0 else if l_ = 3 then Lp0_0 else if l_ = 4 then Lp0_1 else 0), hs.closeM_ft (o := o) (ρ := fun l_ => if l_ = 1 then LF else if l_ = 2 then Lp0 else if l_ = 3 then Lp0_0 else if l_ = 4 then Lp0_1 else 0) f900019 (lab_at hoa (i := 1) rfl) rfl, f900000.conv (fun _ h_ => hs.closeM_ft (o := o) (ρ := fun l_ => if l_ = 1 then LF else if l_ = 2 then Lp0 else if l_ = 3 then Lp0_0 else if l_ = 4 then Lp0_1 else 0) h_ (lab_at hoa (i := 2) rfl) rfl) (fun _ h_ => hs.closeM_ft (o := o) (ρ := fun l_ => if l_ = 1 then LF else if l_ = 2 then Lp0 else if l_ = 3 then Lp0_0 else if l_ = 4 then Lp0_1 else 0) h_ (lab_at hoa (i := 0) rfl) rfl), hcp0_0, f900001.conv (fun _ h_ => hs.closeM_ft (o := o) (ρ := fun l_ => if l_ = 1 then LF else if l_ = 2 then Lp0 else if l_ = 3 then Lp0_0 else if l_ = 4 then Lp0_1 else 0) h_ (lab_at hoa (i := 3) rfl) rfl) (fun _ h_ => hs.closeM_ft (o := o) (ρ := fun l_ => if l_ = 1 then LF else if l_ = 2 then Lp0 else if l_ = 3 then Lp0_0 else if l_ = 4 then Lp0_1 else 0) h_ (lab_at hoa (i := 0) rfl) rfl), hcp0_1⟩
            obtain ⟨q154, H⟩ := ifS H
            refine xd_begin (o := o9) (fun W_ => True) mixed rfl rfl fun w179 st180 => ?_
            replace f900000 := f900000.st st180 (by decide)
            replace f900001 := f900001.st st180 (by decide)
            replace f900019 := f900019.st st180 (by decide)
            replace hs := hs.locQ st180 hob rfl
            refine xd_abs fun G hG => ?_
            have N186 : ∀ (a_ : Act) (w_ : World), (∃ o184 : Nat → Nat, Kn 42 a_ [(32, .pointer (some ⟨bp0, 0, none⟩)), (35, .string p0.text), (36, .int .u8 p1)] ∧ St [2, 3, 4] w oi w_ o184 ∧ CO (encInt .i64) 3 Ap0_0 cp0_0 p0.order_nums (p0.state == (3 : Int)) w_ o184 3 1 ∧ NOwn dT37 38 Ap0_1 cp0_1 p0.out w_ o184 4 1 ∧ Ft (Bx bp0 31 [.int .i64 p0.state, .bool p0.order_private_, .bool p0.order_wrong, .bool p0.order_any, .bool p0.order_some, .int .i64 p0.order_n, .slice Ap0_0 (p0.order_nums).length cp0_0, .string p0.text, .int .u8 p0.runes_Lead, .int .i32 p0.runes_Rune, .int .i64 p0.runes_Need, .slice Ap0_1 (p0.out).length cp0_1]) w_ o184 2) → G 6 #[true, true, true, true, true, false, false, false, false, false, false] a_ w_ := by
              rintro a w185 ⟨o184, hk, hs, f900000, f900001, f900019⟩
              refine xd_of hG ?_
              refine xd_op hk (i := 5) (by kernel_rfl) rfl rfl ?_
              refine op_slice (o := o184) tab hk (vs := [.int .u8 p1]) (cs := [.int .u8 p1]) rfl rfl rfl rfl rfl rfl rfl rfl rfl 18 fun bx190 w187 o188 st189 f191 => ?_
              replace f900000 := f900000.st st189 (by decide)
              replace f900001 := f900001.st st189 (by decide)
              replace f900019 := f900019.st st189 (by decide)
              replace hs := hs.locQ st189 hob rfl
              have f192 : Ft (Own (encInt .u8) 5 (.slice (some ⟨bx190, 0, none⟩) (([p1] : List Int)).length 1) ([p1] : List Int)) w187 o188 18 := f191.imp fun _ h_ => Own.of_box h_ rfl (by simp)
              have hk := hk.put 37 (.slice (some ⟨bx190, 0, none⟩) (([p1] : List Int)).length 1) rfl
              refine ⟨.inr trivial, ?_⟩
              refine xd_op hk (i := 6) (by kernel_rfl) rfl rfl ?_
              refine op_quiet tab hk (lv := [.string (strOfNums ([p1] : List Int))]) (v := .string (strOfNums ([p1] : List Int))) rfl ⟨(ask_str tab rfl rfl rfl rfl (Own.rd f192.now) (Own.plain f192.now _ _ _ rfl)), trivial⟩ ?_
              have hk := hk.put 38 (.string (strOfNums ([p1] : List Int))) rfl
              refine ⟨.inr trivial, ?_⟩
              refine xd_take tab hk (k := 1) (is := [7, 8, 9]) (ls' := #[true, true, true, true, true, true, true, true, true, true, false]) (lv := []) (ks := [39, 41]) (e' := [(39, .string (p0.text ++ (strOfNums ([p1] : List Int)))), (41, .pointer (some ((⟨bp0, 0, none⟩ : Addr).add 7)))]) (by kernel_rfl) rfl rfl (by kernel_rfl) (np_then (np_blk np_body)) trivial (fun W_ hS => ⟨q154, trivial⟩) fun a hk => ?_
              refine xd_op hk (i := 10) (by kernel_rfl) rfl rfl ?_
              refine op_store tab hk (t := 9) (v := .string (p0.text ++ (strOfNums ([p1] : List Int)))) (b := bp0) (k := 7) (cs' := [.int .i64 p0.state, .bool p0.order_private_, .bool p0.order_wrong, .bool p0.order_any, .bool p0.order_some, .int .i64 p0.order_n, .slice Ap0_0 (p0.order_nums).length cp0_0, .string (p0.text ++ (strOfNums ([p1] : List Int))), .int .u8 p0.runes_Lead, .int .i32 p0.runes_Rune, .int .i64 p0.runes_Need, .slice Ap0_1 (p0.out).length cp0_1]) rfl rfl rfl rfl rfl rfl f900019 rfl rfl fun w193 o194 st195 f900019_ => ?_
              replace f192 := f192.st st195 (by decide)
              replace f900000 := f900000.st st195 (by decide)
              replace f900001 := f900001.st st195 (by decide)
              replace hs := hs.locQ st195 hob rfl
              replace f900019 := f900019_
              refine ⟨.inr trivial, ?_⟩
              refine xd_done (by kernel_rfl) ?_
              refine then_n ?_
              exact ⟨o194, (by exact Kn.pick (ks := []) hk rfl), hs, f900000, f900001, f900019, H⟩
            have N233 : ∀ (a_ : Act) (w_ : World), (∃ o227 : Nat → Nat, ∃ A228 : Option Addr, ∃ c229 : Nat, Kn 42 a_ [(32, .pointer (some ⟨bp0, 0, none⟩)), (35, .string p0.text), (37, .slice A228 (([p1] : List Int)).length c229)] ∧ St [2, 3, 4] w oi w_ o227 ∧ Ft (Own (encInt .u8) 5 (.slice A228 (([p1] : List Int)).length c229) ([p1] : List Int)) w_ o227 21 ∧ CO (encInt .i64) 3 Ap0_0 cp0_0 p0.order_nums (p0.state == (3 : Int)) w_ o227 3 1 ∧ NOwn dT37 38 Ap0_1 cp0_1 p0.out w_ o227 4 1 ∧ Ft (Bx bp0 31 [.int .i64 p0.state, .bool p0.order_private_, .bool p0.order_wrong, .bool p0.order_any, .bool p0.order_some, .int .i64 p0.order_n, .slice Ap0_0 (p0.order_nums).length cp0_0, .string p0.text, .int .u8 p0.runes_Lead, .int .i32 p0.runes_Rune, .int .i64 p0.runes_Need, .slice Ap0_1 (p0.out).length cp0_1]) w_ o227 2 ∧ (([p1] : List Int)).length ≤ c229) → G 5 #[true, true, true, true, true, true, false, false, false, false, false] a_ w_ := by
              rintro a w232 ⟨o227, A228, c229, hk, hs, f230, f900000, f900001, f900019, hc231⟩
              refine xd_of hG ?_
              refine xd_op hk (i := 6) (by kernel_rfl) rfl rfl ?_
              refine op_quiet tab hk (lv := [.string (strOfNums ([p1] : List Int))]) (v := .string (strOfNums ([p1] : List Int))) rfl ⟨(ask_str tab rfl rfl rfl rfl (Own.rd f230.now) (Own.plain f230.now _ _ _ rfl)), trivial⟩ ?_
              have hk := hk.put 38 (.string (strOfNums ([p1] : List Int))) rfl
              refine ⟨.inr trivial, ?_⟩
              refine xd_take tab hk (k := 1) (is := [7, 8, 9]) (ls' := #[true, true, true, true, true, true, true, true, true, true, false]) (lv := []) (ks := [39, 41]) (e' := [(39, .string (p0.text ++ (strOfNums ([p1] : List Int)))), (41, .pointer (some ((⟨bp0, 0, none⟩ : Addr).add 7)))]) (by kernel_rfl) rfl rfl (by kernel_rfl) (np_then (np_blk np_body)) trivial (fun W_ hS => ⟨q154, trivial⟩) fun a hk => ?_
              refine xd_op hk (i := 10) (by kernel_rfl) rfl rfl ?_
              refine op_store tab hk (t := 9) (v := .string (p0.text ++ (strOfNums ([p1] : List Int)))) (b := bp0) (k := 7) (cs' := [.int .i64 p0.state, .bool p0.order_private_, .bool p0.order_wrong, .bool p0.order_any, .bool p0.order_some, .int .i64 p0.order_n, .slice Ap0_0 (p0.order_nums).length cp0_0, .string (p0.text ++ (strOfNums ([p1] : List Int))), .int .u8 p0.runes_Lead, .int .i32 p0.runes_Rune, .int .i64 p0.runes_Need, .slice Ap0_1 (p0.out).length cp0_1]) rfl rfl rfl rfl rfl rfl f900019 rfl rfl fun w234 o235 st236 f900019_ => ?_
              replace f230 := f230.st st236 (by decide)
              replace f900000 := f900000.st st236 (by decide)
              replace f900001 := f900001.st st236 (by decide)
              replace hs := hs.locQ st236 hob rfl
              replace f900019 := f900019_
              refine ⟨.inr trivial, ?_⟩
              refine xd_done (by kernel_rfl) ?_
              refine then_n ?_
              exact ⟨o235, (by exact Kn.pick (ks := []) hk rfl), hs, f900000, f900001, f900019, H⟩
            have N242 : ∀ (a_ : Act) (w_ : World), (∃ o240 : Nat → Nat, Kn 42 a_ [(32, .pointer (some ⟨bp0, 0, none⟩)), (34, .pointer (some ((⟨bp0, 0, none⟩ : Addr).add 7))), (38, .string (strOfNums ([p1] : List Int)))] ∧ St [2, 3, 4] w oi w_ o240 ∧ CO (encInt .i64) 3 Ap0_0 cp0_0 p0.order_nums (p0.state == (3 : Int)) w_ o240 3 1 ∧ NOwn dT37 38 Ap0_1 cp0_1 p0.out w_ o240 4 1 ∧ Ft (Bx bp0 31 [.int .i64 p0.state, .bool p0.order_private_, .bool p0.order_wrong, .bool p0.order_any, .bool p0.order_some, .int .i64 p0.order_n, .slice Ap0_0 (p0.order_nums).length cp0_0, .string p0.text, .int .u8 p0.runes_Lead, .int .i32 p0.runes_Rune, .int .i64 p0.runes_Need, .slice Ap0_1 (p0.out).length cp0_1]) w_ o240 2) → G 5 #[true, true, true, false, true, true, true, false, false, false, false] a_ w_ := by
              rintro a w241 ⟨o240, hk, hs, f900000, f900001, f900019⟩
              refine xd_of hG ?_
              refine xd_op hk (i := 3) (by kernel_rfl) rfl rfl ?_
              refine op_quiet tab hk (lv := [.string p0.text]) (v := .string p0.text) rfl ⟨(load1 tab rfl ((Bx.cell f900019.now 7).trans rfl)), trivial⟩ ?_
              have hk := hk.put 35 (.string p0.text) rfl
              refine ⟨.inr trivial, ?_⟩
              refine xd_take tab hk (k := 1) (is := [7, 8, 9]) (ls' := #[true, true, true, true, true, true, true, true, true, true, false]) (lv := []) (ks := [39, 41]) (e' := [(39, .string (p0.text ++ (strOfNums ([p1] : List Int)))), (41, .pointer (some ((⟨bp0, 0, none⟩ : Addr).add 7)))]) (by kernel_rfl) rfl rfl (by kernel_rfl) (np_then (np_blk np_body)) trivial (fun W_ hS => ⟨q154, trivial⟩) fun a hk => ?_
              refine xd_op hk (i := 10) (by kernel_rfl) rfl rfl ?_
              refine op_store tab hk (t := 9) (v := .string (p0.text ++ (strOfNums ([p1] : List Int)))) (b := bp0) (k := 7) (cs' := [.int .i64 p0.state, .bool p0.order_private_, .bool p0.order_wrong, .bool p0.order_any, .bool p0.order_some, .int .i64 p0.order_n, .slice Ap0_0 (p0.order_nums).length cp0_0, .string (p0.text ++ (strOfNums ([p1] : List Int))), .int .u8 p0.runes_Lead, .int .i32 p0.runes_Rune, .int .i64 p0.runes_Need, .slice Ap0_1 (p0.out).length cp0_1]) rfl rfl rfl rfl rfl rfl f900019 rfl rfl fun w243 o244 st245 f900019_ => ?_
              replace f900000 := f900000.st st245 (by decide)
              replace f900001 := f900001.st st245 (by decide)
              replace hs := hs.locQ st245 hob rfl
              replace f900019 := f900019_
              refine ⟨.inr trivial, ?_⟩
              refine xd_done (by kernel_rfl) ?_
              refine then_n ?_
              exact ⟨o244, (by exact Kn.pick (ks := []) hk rfl), hs, f900000, f900001, f900019, H⟩
            have N217 : ∀ (a_ : Act) (w_ : World), (∃ o211 : Nat → Nat, ∃ A212 : Option Addr, ∃ c213 : Nat, Kn 42 a_ [(32, .pointer (some ⟨bp0, 0, none⟩)), (34, .pointer (some ((⟨bp0, 0, none⟩ : Addr).add 7))), (37, .slice A212 (([p1] : List Int)).length c213)] ∧ St [2, 3, 4] w oi w_ o211 ∧ Ft (Own (encInt .u8) 5 (.slice A212 (([p1] : List Int)).length c213) ([p1] : List Int)) w_ o211 20 ∧ CO (encInt .i64) 3 Ap0_0 cp0_0 p0.order_nums (p0.state == (3 : Int)) w_ o211 3 1 ∧ NOwn dT37 38 Ap0_1 cp0_1 p0.out w_ o211 4 1 ∧ Ft (Bx bp0 31 [.int .i64 p0.state, .bool p0.order_private_, .bool p0.order_wrong, .bool p0.order_any, .bool p0.order_some, .int .i64 p0.order_n, .slice Ap0_0 (p0.order_nums).length cp0_0, .string p0.text, .int .u8 p0.runes_Lead, .int .i32 p0.runes_Rune, .int .i64 p0.runes_Need, .slice Ap0_1 (p0.out).length cp0_1]) w_ o211 2 ∧ (([p1] : List Int)).length ≤ c213) → G 6 #[true, true, true, false, true, true, false, false, false, false, false] a_ w_ := by
              rintro a w216 ⟨o211, A212, c213, hk, hs, f214, f900000, f900001, f900019, hc215⟩
              refine xd_of hG ?_
              refine xd_each [3, 6] (by kernel_rfl) rfl ⟨?_, ?_, trivial⟩
              · refine xd_one hk rfl rfl ?_
                refine op_quiet tab hk (lv := [.string p0.text]) (v := .string p0.text) rfl ⟨(load1 tab rfl ((Bx.cell f900019.now 7).trans rfl)), trivial⟩ ?_
                have hk := hk.put 35 (.string p0.text) rfl
                refine ⟨.inr trivial, ?_⟩
                exact xd_to hG rfl (N233 _ _ ⟨(fun b_ => (fun l_ => if l_ = 20 then 21 else l_) (o211 b_)), A212, c213, (by exact Kn.pick (ks := [32, 35, 37]) hk rfl), (hs.relabM hob (fun l_ => if l_ = 20 then 21 else l_) (by decide)), (f214.relab (fun l_ => if l_ = 20 then 21 else l_) rfl), (f900000.relab (fun l_ => if l_ = 20 then 21 else l_) rfl), (f900001.relab (fun l_ => if l_ = 20 then 21 else l_) rfl), (f900019.relab (fun l_ => if l_ = 20 then 21 else l_) rfl), hc215⟩)
              · refine xd_one hk rfl rfl ?_
                refine op_quiet tab hk (lv := [.string (strOfNums ([p1] : List Int))]) (v := .string (strOfNums ([p1] : List Int))) rfl ⟨(ask_str tab rfl rfl rfl rfl (Own.rd f214.now) (Own.plain f214.now _ _ _ rfl)), trivial⟩ ?_
                have hk := hk.put 38 (.string (strOfNums ([p1] : List Int))) rfl
                refine ⟨.inr trivial, ?_⟩
                exact xd_to hG rfl (N242 _ _ ⟨o211, (by exact Kn.pick (ks := [32, 34, 38]) hk rfl), hs, f900000, f900001, f900019⟩)
            refine xd_of hG ?_
            refine xd_take tab hk (k := 7) (is := [0, 1, 2, 4]) (ls' := #[true, true, true, false, true, false, false, false, false, false, false]) (lv := []) (ks := [32, 34, 36]) (e' := [(32, .pointer (some ⟨bp0, 0, none⟩)), (34, .pointer (some ((⟨bp0, 0, none⟩ : Addr).add 7))), (36, .int .u8 p1)]) (by kernel_rfl) rfl rfl (by kernel_rfl) (np_then (np_blk np_body)) trivial (fun W_ hS => trivial) fun a hk => ?_
            refine xd_each [3, 5] (by kernel_rfl) rfl ⟨?_, ?_, trivial⟩
            · refine xd_one hk rfl rfl ?_
              refine op_quiet tab hk (lv := [.string p0.text]) (v := .string p0.text) rfl ⟨(load1 tab rfl ((Bx.cell f900019.now 7).trans rfl)), trivial⟩ ?_
              have hk := hk.put 35 (.string p0.text) rfl
              refine ⟨.inr trivial, ?_⟩
              exact xd_to hG rfl (N186 _ _ ⟨o9, (by exact Kn.pick (ks := [32, 35, 36]) hk rfl), hs, f900000, f900001, f900019⟩)
            · refine xd_one hk rfl rfl ?_
              refine op_slice (o := o9) tab hk (vs := [.int .u8 p1]) (cs := [.int .u8 p1]) rfl rfl rfl rfl rfl rfl rfl rfl rfl 19 fun bx199 w196 o197 st198 f200 => ?_
              replace f900000 := f900000.st st198 (by decide)
              replace f900001 := f900001.st st198 (by decide)
              replace f900019 := f900019.st st198 (by decide)
              replace hs := hs.locQ st198 hob rfl
              have f201 : Ft (Own (encInt .u8) 5 (.slice (some ⟨bx199, 0, none⟩) (([p1] : List Int)).length 1) ([p1] : List Int)) w196 o197 19 := f200.imp fun _ h_ => Own.of_box h_ rfl (by simp)
              have hk := hk.put 37 (.slice (some ⟨bx199, 0, none⟩) (([p1] : List Int)).length 1) rfl
              refine ⟨.inr trivial, ?_⟩
              exact xd_to hG rfl (N217 _ _ ⟨(fun b_ => (fun l_ => if l_ = 19 then 20 else l_) (o197 b_)), (some ⟨bx199, 0, none⟩), 1, (by exact Kn.pick (ks := [32, 34, 37]) hk rfl), (hs.relabM hob (fun l_ => if l_ = 19 then 20 else l_) (by decide)), (f201.relab (fun l_ => if l_ = 19 then 20 else l_) rfl), (f900000.relab (fun l_ => if l_ = 19 then 20 else l_) rfl), (f900001.relab (fun l_ => if l_ = 19 then 20 else l_) rfl), (f900019.relab (fun l_ => if l_ = 19 then 20 else l_) rfl), (Nat.le_refl _)⟩)
        · rw [b13] at hk H
          replace H := bifT H
          refine x_if hk (b := true) rfl ?_
          refine (show Code.wpIn _ _ _ _ _ _ _ from ?_)
          refine wpIn_region_lit ?_
          refine x_run tab hk (k := 3) (lv := []) (ks := [24]) (e' := [(24, .pointer (some ⟨bp0, 0, none⟩))]) rfl trivial fun a hk => ?_
          refine x_op hk rfl ?_
          refine op_store tab hk (t := 3) (v := .int .i64 5) (b := bp0) (k := 0) (cs' := [.int .i64 5, .bool p0.order_private_, .bool p0.order_wrong, .bool p0.order_any, .bool p0.order_some, .int .i64 p0.order_n, .slice Ap0_0 (p0.order_nums).length cp0_0, .string p0.text, .int .u8 p0.runes_Lead, .int .i32 p0.runes_Rune, .int .i64 p0.runes_Need, .slice Ap0_1 (p0.out).length cp0_1]) rfl rfl rfl rfl rfl rfl f900019 rfl rfl fun w246 o247 st248 f900019_ => ?_
          replace f900000 := f900000.st st248 (by decide)
          replace f900001 := f900001.st st248 (by decide)
          replace hs := hs.locQ st248 hob rfl
          replace f900019 := f900019_
          replace f900000 := f900000.weak
          refine wpListIn_nil ?_
          refine blk_n ?_
          obtain rfl := Option.some.inj H
          exact x_endG hk (rs := []) (vs := []) rfl trivial ⟨cl w oi o [2, 3, 4] (fun l_ => if l_ = 1 then LF else if l_ = 2 then Lp0 else if l_ = 3 then Lp0_0 else if l_ = 4 then Lp0_1 else 0) o247, Ap0_0, cp0_0, Ap0_1, cp0_1, rfl, hs.closeF (Lm := [Lp0, Lp0_0, Lp0_1]) (Sh := []) hoa rfl (fun l_ => if l_ = 1 then LF else if l_ = 2 then Lp0 else if l_ = 3 then Lp0_0 else if l_ = 4 then Lp0_1 else 0), hs.closeM_ft (o := o) (ρ := fun l_ => if l_ = 1 then LF else if l_ = 2 then Lp0 else if l_ = 3 then Lp0_0 else if l_ = 4 then Lp0_1 else 0) f900019 (lab_at hoa (i := 1) rfl) rfl, f900000.conv (fun _ h_ => hs.closeM_ft (o := o) (ρ := fun l_ => if l_ = 1 then LF else if l_ = 2 then Lp0 else if l_ = 3 then Lp0_0 else if l_ = 4 then Lp0_1 else 0) h_ (lab_at hoa (i := 2) rfl) rfl) (fun _ h_ => hs.closeM_ft (o := o) (ρ := fun l_ => if l_ = 1 then LF else if l_ = 2 then Lp0 else if l_ = 3 then Lp0_0 else if l_ = 4 then Lp0_1 else 0) h_ (lab_at hoa (i := 0) rfl) rfl), hcp0_0, f900001.conv (fun _ h_ => hs.closeM_ft (o := o) (ρ := fun l_ => if l_ = 1 then LF else if l_ = 2 then Lp0 else if l_ = 3 then Lp0_0 else if l_ = 4 then Lp0_1 else 0) h_ (lab_at hoa (i := 3) rfl) rfl) (fun _ h_ => hs.closeM_ft (o := o) (ρ := fun l_ => if l_ = 1 then LF else if l_ = 2 then Lp0 else if l_ = 3 then Lp0_0 else if l_ = 4 then Lp0_1 else 0) h_ (lab_at hoa (i := 0) rfl) rfl), hcp0_1⟩
      · rw [b12] at hk H
        replace H := bifT H
        refine x_if hk (b := true) rfl ?_
        refine (show Code.wpIn _ _ _ _ _ _ _ from ?_)
        refine wpIn_region_lit ?_
        refine x_run tab hk (k := 3) (lv := []) (ks := [18]) (e' := [(18, .pointer (some ⟨bp0, 0, none⟩))]) rfl trivial fun a hk => ?_
        refine x_op hk rfl ?_
        refine op_store tab hk (t := 3) (v := .int .i64 0) (b := bp0) (k := 0) (cs' := [.int .i64 0, .bool p0.order_private_, .bool p0.order_wrong, .bool p0.order_any, .bool p0.order_some, .int .i64 p0.order_n, .slice Ap0_0 (p0.order_nums).length cp0_0, .string p0.text, .int .u8 p0.runes_Lead, .int .i32 p0.runes_Rune, .int .i64 p0.runes_Need, .slice Ap0_1 (p0.out).length cp0_1]) rfl rfl rfl rfl rfl rfl f900019 rfl rfl fun w249 o250 st251 f900019_ => ?_
        replace f900000 := f900000.st st251 (by decide)
        replace f900001 := f900001.st st251 (by decide)
        replace hs := hs.locQ st251 hob rfl
        replace f900019 := f900019_
        replace f900000 := f900000.weak
        refine wpListIn_nil ?_
        refine blk_n ?_
        obtain rfl := Option.some.inj H
        exact x_endG hk (rs := []) (vs := []) rfl trivial ⟨cl w oi o [2, 3, 4] (fun l_ => if l_ = 1 then LF else if l_ = 2 then Lp0 else if l_ = 3 then Lp0_0 else if l_ = 4 then Lp0_1 else 0) o250, Ap0_0, cp0_0, Ap0_1, cp0_1, rfl, hs.closeF (Lm := [Lp0, Lp0_0, Lp0_1]) (Sh := []) hoa rfl (fun l_ => if l_ = 1 then LF else if l_ = 2 then Lp0 else if l_ = 3 then Lp0_0 else if l_ = 4 then Lp0_1 else 0), hs.closeM_ft (o := o) (ρ := fun l_ => if l_ = 1 then LF else if l_ = 2 then Lp0 else if l_ = 3 then Lp0_0 else if l_ = 4 then Lp0_1 else 0) f900019 (lab_at hoa (i := 1) rfl) rfl, f900000.conv (fun _ h_ => hs.closeM_ft (o := o) (ρ := fun l_ => if l_ = 1 then LF else if l_ = 2 then Lp0 else if l_ = 3 then Lp0_0 else if l_ = 4 then Lp0_1 else 0) h_ (lab_at hoa (i := 2) rfl) rfl) (fun _ h_ => hs.closeM_ft (o := o) (ρ := fun l_ => if l_ = 1 then LF else if l_ = 2 then Lp0 else if l_ = 3 then Lp0_0 else if l_ = 4 then Lp0_1 else 0) h_ (lab_at hoa (i := 0) rfl) rfl), hcp0_0, f900001.conv (fun _ h_ => hs.closeM_ft (o := o) (ρ := fun l_ => if l_ = 1 then LF else if l_ = 2 then Lp0 else if l_ = 3 then Lp0_0 else if l_ = 4 then Lp0_1 else 0) h_ (lab_at hoa (i := 3) rfl) rfl) (fun _ h_ => hs.closeM_ft (o := o) (ρ := fun l_ => if l_ = 1 then LF else if l_ = 2 then Lp0 else if l_ = 3 then Lp0_0 else if l_ = 4 then Lp0_1 else 0) h_ (lab_at hoa (i := 0) rfl) rfl), hcp0_1⟩
    refine wpIn_region_lit ?_
    refine x_run tab hk (k := 3) (lv := []) (ks := [0, 1, 12]) (e' := [(0, .pointer (some ⟨bp0, 0, none⟩)), (1, .int .u8 p1), (12, .bool (p1 == (24 : Int)))]) rfl trivial fun a hk => ?_
    cases b252 : (p1 == (24 : Int))
    · rw [b252] at hk H
      replace H := bifF H
      refine x_run tab hk (k := 4) (lv := []) (ks := [0, 1, 9]) (e' := [(0, .pointer (some ⟨bp0, 0, none⟩)), (1, .int .u8 p1), (9, .bool (p1 == (26 : Int)))]) rfl trivial fun a hk => ?_
      refine wpListIn_nil ?_
      refine then_n ?_
      exact ⟨oi, (p1 == (26 : Int)), (by exact Kn.pick (ks := [0, 1, 9]) hk rfl), hs, f900000, f900001, f900019, H⟩
    · rw [b252] at hk H
      replace H := bifT H
      refine x_run tab hk (k := 4) (lv := []) (ks := [0, 1, 9]) (e' := [(0, .pointer (some ⟨bp0, 0, none⟩)), (1, .int .u8 p1), (9, .bool true)]) rfl trivial fun a hk => ?_
      refine wpListIn_nil ?_
      refine then_n ?_
      exact ⟨oi, true, (by exact Kn.pick (ks := [0, 1, 9]) hk rfl), hs, f900000, f900001, f900019, H⟩
  · rw [b1] at hk H
    replace H := bifT H
    refine x_if hk (b := true) rfl ?_
    refine (show Code.wpIn _ _ _ _ _ _ _ from ?_)
    refine wpIn_region_lit ?_
    refine x_run tab hk (k := 1) (lv := []) (ks := [7]) (e' := [(7, .pointer (some ⟨bp0, 0, none⟩))]) rfl trivial fun a hk => ?_
    refine x_op hk rfl ?_
    obtain ⟨t256, hc257, H⟩ := bindS H
    refine op_call hk ent_30 (vs := [.pointer (some ⟨bp0, 0, none⟩)]) rfl (seq_Parser_over_calls K bp0 Ap0_0 cp0_0 Ap0_1 cp0_1 p0 _ oi 1 2 f900019 3 f900000 hcp0_0 4 f900001 hcp0_1 (by decide)   _ hc257) ?_
    rintro _ w258 ⟨o259, A262, c263, A266, c267, rfl, st260, f261, f264, hc265, f268, hc269⟩
    replace hs := hs.locQ st260 hob rfl
    have hk := hk.put 8 (.tuple #[]) rfl
    refine wpListIn_nil ?_
    refine blk_n ?_
    obtain rfl := Option.some.inj H
    exact x_endG hk (rs := []) (vs := []) rfl trivial ⟨cl w oi o [2, 3, 4] (fun l_ => if l_ = 1 then LF else if l_ = 2 then Lp0 else if l_ = 3 then Lp0_0 else if l_ = 4 then Lp0_1 else 0) o259, A262, c263, A266, c267, rfl, hs.closeF (Lm := [Lp0, Lp0_0, Lp0_1]) (Sh := []) hoa rfl (fun l_ => if l_ = 1 then LF else if l_ = 2 then Lp0 else if l_ = 3 then Lp0_0 else if l_ = 4 then Lp0_1 else 0), hs.closeM_ft (o := o) (ρ := fun l_ => if l_ = 1 then LF else if l_ = 2 then Lp0 else if l_ = 3 then Lp0_0 else if l_ = 4 then Lp0_1 else 0) f261 (lab_at hoa (i := 1) rfl) rfl, f264.conv (fun _ h_ => hs.closeM_ft (o := o) (ρ := fun l_ => if l_ = 1 then LF else if l_ = 2 then Lp0 else if l_ = 3 then Lp0_0 else if l_ = 4 then Lp0_1 else 0) h_ (lab_at hoa (i := 2) rfl) rfl) (fun _ h_ => hs.closeM_ft (o := o) (ρ := fun l_ => if l_ = 1 then LF else if l_ = 2 then Lp0 else if l_ = 3 then Lp0_0 else if l_ = 4 then Lp0_1 else 0) h_ (lab_at hoa (i := 0) rfl) rfl), hc265, f268.conv (fun _ h_ => hs.closeM_ft (o := o) (ρ := fun l_ => if l_ = 1 then LF else if l_ = 2 then Lp0 else if l_ = 3 then Lp0_0 else if l_ = 4 then Lp0_1 else 0) h_ (lab_at hoa (i := 3) rfl) rfl) (fun _ h_ => hs.closeM_ft (o := o) (ρ := fun l_ => if l_ = 1 then LF else if l_ = 2 then Lp0 else if l_ = 3 then Lp0_0 else if l_ = 4 then Lp0_1 else 0) h_ (lab_at hoa (i := 0) rfl) rfl), hc269⟩

/-! (*tidewrack/seq.Parser).one -/
theorem seq_Parser_one_calls (K : Nat) (bp0 : Nat) (Ap0_0 : Option Addr) (cp0_0 : Nat) (Ap0_1 : Option Addr) (cp0_1 : Nat) (p0 : T30) (p1 : Int) (w : World) (o : Nat → Nat) (LF : Nat) (Lg0 : Nat) (hg0 : Ft (RdC ET70 (some ⟨0, 0, none⟩) glob0) w o Lg0) (Lp0 : Nat) (hp0 : Ft (Bx bp0 31 [.int .i64 p0.state, .bool p0.order_private_, .bool p0.order_wrong, .bool p0.order_any, .bool p0.order_some, .int .i64 p0.order_n, .slice Ap0_0 (p0.order_nums).length cp0_0, .string p0.text, .int .u8 p0.runes_Lead, .int .i32 p0.runes_Rune, .int .i64 p0.runes_Need, .slice Ap0_1 (p0.out).length cp0_1]) w o Lp0) (Lp0_0 : Nat) (hp0_0 : CO (encInt .i64) 3 Ap0_0 cp0_0 p0.order_nums (p0.state == (3 : Int)) w o Lp0_0 LF) (hcp0_0 : (p0.order_nums).length ≤ cp0_0) (Lp0_1 : Nat) (hp0_1 : NOwn dT37 38 Ap0_1 cp0_1 p0.out w o Lp0_1 LF) (hcp0_1 : (p0.out).length ≤ cp0_1) (hd0 : ([LF, Lp0, Lp0_0, Lp0_1] : List Nat).Nodup) (hd1 : Lg0 ∉ [LF, Lp0, Lp0_0, Lp0_1]) (r : T30) (H : seq_Parser_one K p0 p1 = some r) :
    Calls Tryd.prog 19 #[.pointer (some ⟨bp0, 0, none⟩), .int .u8 p1] w (Ret fun v_ w' => ∃ o' : Nat → Nat, ∃ A0 : Option Addr, ∃ c0 : Nat, ∃ A1 : Option Addr, ∃ c1 : Nat, v_ = .tuple #[] ∧ St [Lp0, Lp0_0, Lp0_1] w o w' o' ∧ Ft (Bx bp0 31 [.int .i64 r.state, .bool r.order_private_, .bool r.order_wrong, .bool r.order_any, .bool r.order_some, .int .i64 r.order_n, .slice A0 (r.order_nums).length c0, .string r.text, .int .u8 r.runes_Lead, .int .i32 r.runes_Rune, .int .i64 r.runes_Need, .slice A1 (r.out).length c1]) w' o' Lp0 ∧ CO (encInt .i64) 3 A0 c0 (r.order_nums) (r.state == (3 : Int)) w' o' Lp0_0 LF ∧ (r.order_nums).length ≤ c0 ∧ NOwn dT37 38 A1 c1 r.out w' o' Lp0_1 LF ∧ (r.out).length ≤ c1) := by
  refine x_enter (vs := [.pointer (some ⟨bp0, 0, none⟩), .int .u8 p1]) Tryd.func19 rfl rfl rfl fun a hk => ?_
  obtain ⟨oi, hs0, h0, h1, hob, hoz, hoa⟩ := St.startM2 w o (m := 4) hd0 rfl
  have hs := hs0 [2, 3, 4]
  have fg0 := h0 _ _ hd1 hg0
  have f900000 := hp0_0.conv (fun _ h_ => h1 2 3 h_ rfl rfl) (fun _ h_ => h1 0 1 h_ rfl rfl)
  have f900001 := hp0_1.conv (fun _ h_ => h1 3 4 h_ rfl rfl) (fun _ h_ => h1 0 1 h_ rfl rfl)
  have f900019 := h1 1 2 hp0 rfl rfl
  clear h0 h1 hs0
  rw [seq_Parser_one] at H
  refine x_seq ?_
  refine wpIn_region_lit ?_
  refine x_run tab hk (k := 4) (lv := [.int .i64 p0.state]) (ks := [0, 1, 7]) (e' := [(0, .pointer (some ⟨bp0, 0, none⟩)), (1, .int .u8 p1), (7, .int .i64 p0.state)]) rfl ⟨(load1 tab rfl ((Bx.cell f900019.now 0).trans rfl)), trivial⟩ fun a hk => ?_
  refine wpListIn_nil ?_
  refine then_n ?_
  refine wpIn_block ?_
  refine x_seq ?_
  refine wpIn_region_lit ?_
  refine x_run tab hk (k := 2) (lv := []) (ks := [0, 1, 7, 18]) (e' := [(0, .pointer (some ⟨bp0, 0, none⟩)), (1, .int .u8 p1), (7, .int .i64 p0.state), (18, .bool (p0.state == (0 : Int)))]) rfl trivial fun a hk => ?_
  refine wpListIn_nil ?_
  refine then_n ?_
  cases b1 : (p0.state == (0 : Int))
  · rw [b1] at hk H
    replace H := bifF H
    refine x_if hk (b := false) rfl ?_
    refine (show Code.wpIn _ _ _ _ _ _ _ from ?_)
    refine x_seq ?_
    refine wpIn_region_lit ?_
    refine x_run tab hk (k := 2) (lv := []) (ks := [0, 1, 7, 23]) (e' := [(0, .pointer (some ⟨bp0, 0, none⟩)), (1, .int .u8 p1), (7, .int .i64 p0.state), (23, .bool (p0.state == (1 : Int)))]) rfl trivial fun a hk => ?_
    refine wpListIn_nil ?_
    refine then_n ?_
    cases b2 : (p0.state == (1 : Int))
    · rw [b2] at hk H
      replace H := bifF H
      refine x_if hk (b := false) rfl ?_
      refine (show Code.wpIn _ _ _ _ _ _ _ from ?_)
      refine x_seq ?_
      refine wpIn_region_lit ?_
      refine x_run tab hk (k := 2) (lv := []) (ks := [0, 1, 7, 28]) (e' := [(0, .pointer (some ⟨bp0, 0, none⟩)), (1, .int .u8 p1), (7, .int .i64 p0.state), (28, .bool (p0.state == (2 : Int)))]) rfl trivial fun a hk => ?_
      refine wpListIn_nil ?_
      refine then_n ?_
      cases b3 : (p0.state == (2 : Int))
      · rw [b3] at hk H
        replace H := bifF H
        refine x_if hk (b := false) rfl ?_
        refine (show Code.wpIn _ _ _ _ _ _ _ from ?_)
        refine x_seq ?_
        refine wpIn_region_lit ?_
        refine x_run tab hk (k := 2) (lv := []) (ks := [0, 1, 7, 33]) (e' := [(0, .pointer (some ⟨bp0, 0, none⟩)), (1, .int .u8 p1), (7, .int .i64 p0.state), (33, .bool (p0.state == (3 : Int)))]) rfl trivial fun a hk => ?_
        refine wpListIn_nil ?_
        refine then_n ?_
        cases b4 : (p0.state == (3 : Int))
        · rw [b4] at hk H
          replace H := bifF H
          refine x_if hk (b := false) rfl ?_
          refine (show Code.wpIn _ _ _ _ _ _ _ from ?_)
          refine x_seq ?_
          refine wpIn_region_lit ?_
          refine x_run tab hk (k := 2) (lv := []) (ks := [0, 1, 38]) (e' := [(0, .pointer (some ⟨bp0, 0, none⟩)), (1, .int .u8 p1), (38, .bool (p0.state == (4 : Int)))]) rfl trivial fun a hk => ?_
          refine wpListIn_nil ?_
          refine then_n ?_
          cases b5 : (p0.state == (4 : Int))
          · rw [b5] at hk H
            replace H := bifF H
            refine x_if hk (b := false) rfl ?_
            refine (show Code.wpIn _ _ _ _ _ _ _ from ?_)
            refine x_seq ?_
            refine x_seq ?_
            refine wpIn_region_lit ?_
            refine x_run tab hk (k := 2) (lv := []) (ks := [0, 1, 9]) (e' := [(0, .pointer (some ⟨bp0, 0, none⟩)), (1, .int .u8 p1), (9, .bool (p1 == (92 : Int)))]) rfl trivial fun a hk => ?_
            refine wpListIn_nil ?_
            refine then_n ?_
            cases b6 : (p1 == (92 : Int))
            · rw [b6] at hk H
              replace H := bifF H
              refine x_if hk (b := false) rfl ?_
              refine (show Code.wpIn _ _ _ _ _ _ _ from ?_)
              refine wpIn_skip ?_
              refine then_n ?_
              refine x_seq ?_
              refine wpIn_region_lit ?_
              refine x_run tab hk (k := 3) (lv := []) (ks := [0, 1, 14]) (e' := [(0, .pointer (some ⟨bp0, 0, none⟩)), (1, .int .u8 p1), (14, .pointer (some ⟨bp0, 0, none⟩))]) rfl trivial fun a hk => ?_
              refine x_op hk rfl ?_
              refine op_store tab hk (t := 3) (v := .int .i64 1) (b := bp0) (k := 0) (cs' := [.int .i64 1, .bool p0.order_private_, .bool p0.order_wrong, .bool p0.order_any, .bool p0.order_some, .int .i64 p0.order_n, .slice Ap0_0 (p0.order_nums).length cp0_0, .string p0.text, .int .u8 p0.runes_Lead, .int .i32 p0.runes_Rune, .int .i64 p0.runes_Need, .slice Ap0_1 (p0.out).length cp0_1]) rfl rfl rfl rfl rfl rfl f900019 rfl rfl fun w7 o8 st9 f900019_ => ?_
              replace f900000 := f900000.st st9 (by decide)
              replace f900001 := f900001.st st9 (by decide)
              replace fg0 := fg0.st st9 (by decide)
              replace hs := hs.locQ st9 hob rfl
              replace f900019 := f900019_
              replace f900000 := f900000.weak
              refine wpListIn_nil ?_
              refine then_n ?_
              refine wpIn_region_lit ?_
              refine x_run tab hk (k := 2) (lv := []) (ks := [15, 16]) (e' := [(15, .pointer (some ⟨bp0, 0, none⟩)), (16, .int .u8 p1)]) rfl trivial fun a hk => ?_
              refine x_op hk rfl ?_
              obtain ⟨t13, hc14, H⟩ := bindS H
              refine op_call hk ent_26 (vs := [.pointer (some ⟨bp0, 0, none⟩), .int .u8 p1]) rfl (seq_Parser_onEscape_calls bp0 Ap0_0 cp0_0 Ap0_1 cp0_1 (⟨1, p0.order_private_, p0.order_wrong, p0.order_any, p0.order_some, p0.order_n, p0.order_nums, p0.text, p0.runes_Lead, p0.runes_Rune, p0.runes_Need, p0.out⟩ : T30) p1 _ o8 1 2 f900019 3 f900000 hcp0_0 4 f900001 hcp0_1 (by decide)   _ hc14) ?_
              rintro _ w15 ⟨o16, A19, c20, A23, c24, rfl, st17, f18, f21, hc22, f25, hc26⟩
              replace fg0 := fg0.st st17 (by decide)
              replace hs := hs.locQ st17 hob rfl
              have hk := hk.put 17 (.tuple #[]) rfl
              refine wpListIn_nil ?_
              refine blk_n ?_
              obtain rfl := Option.some.inj H
              exact x_endG hk (rs := []) (vs := []) rfl trivial ⟨cl w oi o [2, 3, 4] (fun l_ => if l_ = 1 then LF else if l_ = 2 then Lp0 else if l_ = 3 then Lp0_0 else if l_ = 4 then Lp0_1 else 0) o16, A19, c20, A23, c24, rfl, hs.closeF (Lm := [Lp0, Lp0_0, Lp0_1]) (Sh := []) hoa rfl (fun l_ => if l_ = 1 then LF else if l_ = 2 then Lp0 else if l_ = 3 then Lp0_0 else if l_ = 4 then Lp0_1 else 0), hs.closeM_ft (o := o) (ρ := fun l_ => if l_ = 1 then LF else if l_ = 2 then Lp0 else if l_ = 3 then Lp0_0 else if l_ = 4 then Lp0_1 else 0) f18 (lab_at hoa (i := 1) rfl) rfl, f21.conv (fun _ h_ => hs.closeM_ft (o := o) (ρ := fun l_ => if l_ = 1 then LF else if l_ = 2 then Lp0 else if l_ = 3 then Lp0_0 else if l_ = 4 then Lp0_1 else 0) h_ (lab_at hoa (i := 2) rfl) rfl) (fun _ h_ => hs.closeM_ft (o := o) (ρ := fun l_ => if l_ = 1 then LF else if l_ = 2 then Lp0 else if l_ = 3 then Lp0_0 else if l_ = 4 then Lp0_1 else 0) h_ (lab_at hoa (i := 0) rfl) rfl), hc22, f25.conv (fun _ h_ => hs.closeM_ft (o := o) (ρ := fun l_ => if l_ = 1 then LF else if l_ = 2 then Lp0 else if l_ = 3 then Lp0_0 else if l_ = 4 then Lp0_1 else 0) h_ (lab_at hoa (i := 3) rfl) rfl) (fun _ h_ => hs.closeM_ft (o := o) (ρ := fun l_ => if l_ = 1 then LF else if l_ = 2 then Lp0 else if l_ = 3 then Lp0_0 else if l_ = 4 then Lp0_1 else 0) h_ (lab_at hoa (i := 0) rfl) rfl), hc26⟩
            · rw [b6] at hk H
              replace H := bifT H
              refine x_if hk (b := true) rfl ?_
              refine (show Code.wpIn _ _ _ _ _ _ _ from ?_)
              refine x_seq ?_
              refine wpIn_region_lit ?_
              refine x_run tab hk (k := 1) (lv := []) (ks := [10]) (e' := [(10, .pointer (some ⟨bp0, 0, none⟩))]) rfl trivial fun a hk => ?_
              refine x_op hk rfl ?_
              obtain ⟨t30, hc31, H⟩ := bindS H
              refine op_call hk ent_30 (vs := [.pointer (some ⟨bp0, 0, none⟩)]) rfl (seq_Parser_over_calls K bp0 Ap0_0 cp0_0 Ap0_1 cp0_1 p0 _ oi 1 2 f900019 3 f900000 hcp0_0 4 f900001 hcp0_1 (by decide)   _ hc31) ?_
              rintro _ w32 ⟨o33, A36, c37, A40, c41, rfl, st34, f35, f38, hc39, f42, hc43⟩
              replace fg0 := fg0.st st34 (by decide)
              replace hs := hs.locQ st34 hob rfl
              have hk := hk.put 11 (.tuple #[]) rfl
              refine wpListIn_nil ?_
              refine then_n ?_
              refine wpIn_ret ?_
              refine then_r ?_
              refine blk_r ?_
              obtain rfl := Option.some.inj H
              exact x_retG hk (rs := []) (vs := []) rfl trivial ⟨cl w oi o [2, 3, 4] (fun l_ => if l_ = 1 then LF else if l_ = 2 then Lp0 else if l_ = 3 then Lp0_0 else if l_ = 4 then Lp0_1 else 0) o33, A36, c37, A40, c41, rfl, hs.closeF (Lm := [Lp0, Lp0_0, Lp0_1]) (Sh := []) hoa rfl (fun l_ => if l_ = 1 then LF else if l_ = 2 then Lp0 else if l_ = 3 then Lp0_0 else if l_ = 4 then Lp0_1 else 0), hs.closeM_ft (o := o) (ρ := fun l_ => if l_ = 1 then LF else if l_ = 2 then Lp0 else if l_ = 3 then Lp0_0 else if l_ = 4 then Lp0_1 else 0) f35 (lab_at hoa (i := 1) rfl) rfl, f38.conv (fun _ h_ => hs.closeM_ft (o := o) (ρ := fun l_ => if l_ = 1 then LF else if l_ = 2 then Lp0 else if l_ = 3 then Lp0_0 else if l_ = 4 then Lp0_1 else 0) h_ (lab_at hoa (i := 2) rfl) rfl) (fun _ h_ => hs.closeM_ft (o := o) (ρ := fun l_ => if l_ = 1 then LF else if l_ = 2 then Lp0 else if l_ = 3 then Lp0_0 else if l_ = 4 then Lp0_1 else 0) h_ (lab_at hoa (i := 0) rfl) rfl), hc39, f42.conv (fun _ h_ => hs.closeM_ft (o := o) (ρ := fun l_ => if l_ = 1 then LF else if l_ = 2 then Lp0 else if l_ = 3 then Lp0_0 else if l_ = 4 then Lp0_1 else 0) h_ (lab_at hoa (i := 3) rfl) rfl) (fun _ h_ => hs.closeM_ft (o := o) (ρ := fun l_ => if l_ = 1 then LF else if l_ = 2 then Lp0 else if l_ = 3 then Lp0_0 else if l_ = 4 then Lp0_1 else 0) h_ (lab_at hoa (i := 0) rfl) rfl), hc43⟩
          · rw [b5] at hk H
            replace H := bifT H
            refine x_if hk (b := true) rfl ?_
            refine (show Code.wpIn _ _ _ _ _ _ _ from ?_)
            refine wpIn_region_lit ?_
            refine x_run tab hk (k := 2) (lv := []) (ks := [40, 41]) (e' := [(40, .pointer (some ⟨bp0, 0, none⟩)), (41, .int .u8 p1)]) rfl trivial fun a hk => ?_
            refine x_op hk rfl ?_
            obtain ⟨t47, hc48, H⟩ := bindS H
            refine op_call hk ent_29 (vs := [.pointer (some ⟨bp0, 0, none⟩), .int .u8 p1]) rfl (seq_Parser_onTitle_calls K bp0 Ap0_0 cp0_0 Ap0_1 cp0_1 p0 p1 _ oi 1 2 f900019 3 f900000 hcp0_0 4 f900001 hcp0_1 (by decide)   _ hc48) ?_
            rintro _ w49 ⟨o50, A53, c54, A57, c58, rfl, st51, f52, f55, hc56, f59, hc60⟩
            replace fg0 := fg0.st st51 (by decide)
            replace hs := hs.locQ st51 hob rfl
            have hk := hk.put 42 (.tuple #[]) rfl
            refine wpListIn_nil ?_
            refine blk_n ?_
            obtain rfl := Option.some.inj H
            exact x_endG hk (rs := []) (vs := []) rfl trivial ⟨cl w oi o [2, 3, 4] (fun l_ => if l_ = 1 then LF else if l_ = 2 then Lp0 else if l_ = 3 then Lp0_0 else if l_ = 4 then Lp0_1 else 0) o50, A53, c54, A57, c58, rfl, hs.closeF (Lm := [Lp0, Lp0_0, Lp0_1]) (Sh := []) hoa rfl (fun l_ => if l_ = 1 then LF else if l_ = 2 then Lp0 else if l_ = 3 then Lp0_0 else if l_ = 4 then Lp0_1 else 0), hs.closeM_ft (o := o) (ρ := fun l_ => if l_ = 1 then LF else if l_ = 2 then Lp0 else if l_ = 3 then Lp0_0 else if l_ = 4 then Lp0_1 else 0) f52 (lab_at hoa (i := 1) rfl) rfl, f55.conv (fun _ h_ => hs.closeM_ft (o := o) (ρ := fun l_ => if l_ = 1 then LF else if l_ = 2 then Lp0 else if l_ = 3 then Lp0_0 else if l_ = 4 then Lp0_1 else 0) h_ (lab_at hoa (i := 2) rfl) rfl) (fun _ h_ => hs.closeM_ft (o := o) (ρ := fun l_ => if l_ = 1 then LF else if l_ = 2 then Lp0 else if l_ = 3 then Lp0_0 else if l_ = 4 then Lp0_1 else 0) h_ (lab_at hoa (i := 0) rfl) rfl), hc56, f59.conv (fun _ h_ => hs.closeM_ft (o := o) (ρ := fun l_ => if l_ = 1 then LF else if l_ = 2 then Lp0 else if l_ = 3 then Lp0_0 else if l_ = 4 then Lp0_1 else 0) h_ (lab_at hoa (i := 3) rfl) rfl) (fun _ h_ => hs.closeM_ft (o := o) (ρ := fun l_ => if l_ = 1 then LF else if l_ = 2 then Lp0 else if l_ = 3 then Lp0_0 else if l_ = 4 then Lp0_1 else 0) h_ (lab_at hoa (i := 0) rfl) rfl), hc60⟩
        · rw [b4] at hk H
          replace H := bifT H
          refine x_if hk (b := true) rfl ?_
          refine (show Code.wpIn _ _ _ _ _ _ _ from ?_)
          refine wpIn_region_lit ?_
          refine x_run tab hk (k := 2) (lv := []) (ks := [35, 36]) (e' := [(35, .pointer (some ⟨bp0, 0, none⟩)), (36, .int .u8 p1)]) rfl trivial fun a hk => ?_
          refine x_op hk rfl ?_
          obtain ⟨t64, hc65, H⟩ := bindS H
          refine op_call hk ent_28 (vs := [.pointer (some ⟨bp0, 0, none⟩), .int .u8 p1]) rfl (seq_Parser_onCommand_calls bp0 Ap0_0 cp0_0 Ap0_1 cp0_1 p0 p1 _ oi 1 2 f900019 3 (f900000.1 b4) hcp0_0 4 f900001 hcp0_1 (by decide)   _ hc65) ?_
          rintro _ w66 ⟨o67, A70, c71, A74, c75, rfl, st68, f69, f72, hc73, f76, hc77⟩
          replace fg0 := fg0.st st68 (by decide)
          replace hs := hs.locQ st68 hob rfl
          have hk := hk.put 37 (.tuple #[]) rfl
          refine wpListIn_nil ?_
          refine blk_n ?_
          obtain rfl := Option.some.inj H
          exact x_endG hk (rs := []) (vs := []) rfl trivial ⟨cl w oi o [2, 3, 4] (fun l_ => if l_ = 1 then LF else if l_ = 2 then Lp0 else if l_ = 3 then Lp0_0 else if l_ = 4 then Lp0_1 else 0) o67, A70, c71, A74, c75, rfl, hs.closeF (Lm := [Lp0, Lp0_0, Lp0_1]) (Sh := []) hoa rfl (fun l_ => if l_ = 1 then LF else if l_ = 2 then Lp0 else if l_ = 3 then Lp0_0 else if l_ = 4 then Lp0_1 else 0), hs.closeM_ft (o := o) (ρ := fun l_ => if l_ = 1 then LF else if l_ = 2 then Lp0 else if l_ = 3 then Lp0_0 else if l_ = 4 then Lp0_1 else 0) f69 (lab_at hoa (i := 1) rfl) rfl, f72.conv (fun _ h_ => hs.closeM_ft (o := o) (ρ := fun l_ => if l_ = 1 then LF else if l_ = 2 then Lp0 else if l_ = 3 then Lp0_0 else if l_ = 4 then Lp0_1 else 0) h_ (lab_at hoa (i := 2) rfl) rfl) (fun _ h_ => hs.closeM_ft (o := o) (ρ := fun l_ => if l_ = 1 then LF else if l_ = 2 then Lp0 else if l_ = 3 then Lp0_0 else if l_ = 4 then Lp0_1 else 0) h_ (lab_at hoa (i := 0) rfl) rfl), hc73, f76.conv (fun _ h_ => hs.closeM_ft (o := o) (ρ := fun l_ => if l_ = 1 then LF else if l_ = 2 then Lp0 else if l_ = 3 then Lp0_0 else if l_ = 4 then Lp0_1 else 0) h_ (lab_at hoa (i := 3) rfl) rfl) (fun _ h_ => hs.closeM_ft (o := o) (ρ := fun l_ => if l_ = 1 then LF else if l_ = 2 then Lp0 else if l_ = 3 then Lp0_0 else if l_ = 4 then Lp0_1 else 0) h_ (lab_at hoa (i := 0) rfl) rfl), hc77⟩
      · rw [b3] at hk H
        replace H := bifT H
        refine x_if hk (b := true) rfl ?_
        refine (show Code.wpIn _ _ _ _ _ _ _ from ?_)
        refine wpIn_region_lit ?_
        refine x_run tab hk (k := 2) (lv := []) (ks := [30, 31]) (e' := [(30, .pointer (some ⟨bp0, 0, none⟩)), (31, .int .u8 p1)]) rfl trivial fun a hk => ?_
        refine x_op hk rfl ?_
        obtain ⟨t81, hc82, H⟩ := bindS H
        refine op_call hk ent_27 (vs := [.pointer (some ⟨bp0, 0, none⟩), .int .u8 p1]) rfl (seq_Parser_onSkip_calls bp0 Ap0_0 cp0_0 Ap0_1 cp0_1 p0 p1 _ oi 1 2 f900019 3 f900000 hcp0_0 4 f900001 hcp0_1 (by decide)   _ hc82) ?_
        rintro _ w83 ⟨o84, A87, c88, A91, c92, rfl, st85, f86, f89, hc90, f93, hc94⟩
        replace fg0 := fg0.st st85 (by decide)
        replace hs := hs.locQ st85 hob rfl
        have hk := hk.put 32 (.tuple #[]) rfl
        refine wpListIn_nil ?_
        refine blk_n ?_
        obtain rfl := Option.some.inj H
        exact x_endG hk (rs := []) (vs := []) rfl trivial ⟨cl w oi o [2, 3, 4] (fun l_ => if l_ = 1 then LF else if l_ = 2 then Lp0 else if l_ = 3 then Lp0_0 else if l_ = 4 then Lp0_1 else 0) o84, A87, c88, A91, c92, rfl, hs.closeF (Lm := [Lp0, Lp0_0, Lp0_1]) (Sh := []) hoa rfl (fun l_ => if l_ = 1 then LF else if l_ = 2 then Lp0 else if l_ = 3 then Lp0_0 else if l_ = 4 then Lp0_1 else 0), hs.closeM_ft (o := o) (ρ := fun l_ => if l_ = 1 then LF else if l_ = 2 then Lp0 else if l_ = 3 then Lp0_0 else if l_ = 4 then Lp0_1 else 0) f86 (lab_at hoa (i := 1) rfl) rfl, f89.conv (fun _ h_ => hs.closeM_ft (o := o) (ρ := fun l_ => if l_ = 1 then LF else if l_ = 2 then Lp0 else if l_ = 3 then Lp0_0 else if l_ = 4 then Lp0_1 else 0) h_ (lab_at hoa (i := 2) rfl) rfl) (fun _ h_ => hs.closeM_ft (o := o) (ρ := fun l_ => if l_ = 1 then LF else if l_ = 2 then Lp0 else if l_ = 3 then Lp0_0 else if l_ = 4 then Lp0_1 else 0) h_ (lab_at hoa (i := 0) rfl) rfl), hc90, f93.conv (fun _ h_ => hs.closeM_ft (o := o) (ρ := fun l_ => if l_ = 1 then LF else if l_ = 2 then Lp0 else if l_ = 3 then Lp0_0 else if l_ = 4 then Lp0_1 else 0) h_ (lab_at hoa (i := 3) rfl) rfl) (fun _ h_ => hs.closeM_ft (o := o) (ρ := fun l_ => if l_ = 1 then LF else if l_ = 2 then Lp0 else if l_ = 3 then Lp0_0 else if l_ = 4 then Lp0_1 else 0) h_ (lab_at hoa (i := 0) rfl) rfl), hc94⟩
    · rw [b2] at hk H
      replace H := bifT H
      refine x_if hk (b := true) rfl ?_
      refine (show Code.wpIn _ _ _ _ _ _ _ from ?_)
      refine wpIn_region_lit ?_
      refine x_run tab hk (k := 2) (lv := []) (ks := [25, 26]) (e' := [(25, .pointer (some ⟨bp0, 0, none⟩)), (26, .int .u8 p1)]) rfl trivial fun a hk => ?_
      refine x_op hk rfl ?_
      obtain ⟨t98, hc99, H⟩ := bindS H
      refine op_call hk ent_26 (vs := [.pointer (some ⟨bp0, 0, none⟩), .int .u8 p1]) rfl (seq_Parser_onEscape_calls bp0 Ap0_0 cp0_0 Ap0_1 cp0_1 p0 p1 _ oi 1 2 f900019 3 f900000 hcp0_0 4 f900001 hcp0_1 (by decide)   _ hc99) ?_
      rintro _ w100 ⟨o101, A104, c105, A108, c109, rfl, st102, f103, f106, hc107, f110, hc111⟩
      replace fg0 := fg0.st st102 (by decide)
      replace hs := hs.locQ st102 hob rfl
      have hk := hk.put 27 (.tuple #[]) rfl
      refine wpListIn_nil ?_
      refine blk_n ?_
      obtain rfl := Option.some.inj H
      exact x_endG hk (rs := []) (vs := []) rfl trivial ⟨cl w oi o [2, 3, 4] (fun l_ => if l_ = 1 then LF else if l_ = 2 then Lp0 else if l_ = 3 then Lp0_0 else if l_ = 4 then Lp0_1 else 0) o101, A104, c105, A108, c109, rfl, hs.closeF (Lm := [Lp0, Lp0_0, Lp0_1]) (Sh := []) hoa rfl (fun l_ => if l_ = 1 then LF else if l_ = 2 then Lp0 else if l_ = 3 then Lp0_0 else if l_ = 4 then Lp0_1 else 0), hs.closeM_ft (o := o) (ρ := fun l_ => if l_ = 1 then LF else if l_ = 2 then Lp0 else if l_ = 3 then Lp0_0 else if l_ = 4 then Lp0_1 else 0) f103 (lab_at hoa (i := 1) rfl) rfl, f106.conv (fun _ h_ => hs.closeM_ft (o := o) (ρ := fun l_ => if l_ = 1 then LF else if l_ = 2 then Lp0 else if l_ = 3 then Lp0_0 else if l_ = 4 then Lp0_1 else 0) h_ (lab_at hoa (i := 2) rfl) rfl) (fun _ h_ => hs.closeM_ft (o := o) (ρ := fun l_ => if l_ = 1 then LF else if l_ = 2 then Lp0 else if l_ = 3 then Lp0_0 else if l_ = 4 then Lp0_1 else 0) h_ (lab_at hoa (i := 0) rfl) rfl), hc107, f110.conv (fun _ h_ => hs.closeM_ft (o := o) (ρ := fun l_ => if l_ = 1 then LF else if l_ = 2 then Lp0 else if l_ = 3 then Lp0_0 else if l_ = 4 then Lp0_1 else 0) h_ (lab_at hoa (i := 3) rfl) rfl) (fun _ h_ => hs.closeM_ft (o := o) (ρ := fun l_ => if l_ = 1 then LF else if l_ = 2 then Lp0 else if l_ = 3 then Lp0_0 else if l_ = 4 then Lp0_1 else 0) h_ (lab_at hoa (i := 0) rfl) rfl), hc111⟩
  · rw [b1] at hk H
    replace H := bifT H
    refine x_if hk (b := true) rfl ?_
    refine (show Code.wpIn _ _ _ _ _ _ _ from ?_)
    refine wpIn_region_lit ?_
    refine x_run tab hk (k := 2) (lv := []) (ks := [20, 21]) (e' := [(20, .pointer (some ⟨bp0, 0, none⟩)), (21, .int .u8 p1)]) rfl trivial fun a hk => ?_
    refine x_op hk rfl ?_
    obtain ⟨t115, hc116, H⟩ := bindS H
    refine op_call hk ent_25 (vs := [.pointer (some ⟨bp0, 0, none⟩), .int .u8 p1]) rfl (seq_Parser_onGround_calls K bp0 Ap0_0 cp0_0 Ap0_1 cp0_1 p0 p1 _ oi 1 0 fg0 2 f900019 3 f900000 hcp0_0 4 f900001 hcp0_1 (by decide) (by decide)   _ hc116) ?_
    rintro _ w117 ⟨o118, A121, c122, A125, c126, rfl, st119, f120, f123, hc124, f127, hc128⟩
    replace fg0 := fg0.st st119 (by decide)
    replace hs := hs.locQ st119 hob rfl
    have hk := hk.put 22 (.tuple #[]) rfl
    refine wpListIn_nil ?_
    refine blk_n ?_
    obtain rfl := Option.some.inj H
    exact x_endG hk (rs := []) (vs := []) rfl trivial ⟨cl w oi o [2, 3, 4] (fun l_ => if l_ = 1 then LF else if l_ = 2 then Lp0 else if l_ = 3 then Lp0_0 else if l_ = 4 then Lp0_1 else 0) o118, A121, c122, A125, c126, rfl, hs.closeF (Lm := [Lp0, Lp0_0, Lp0_1]) (Sh := []) hoa rfl (fun l_ => if l_ = 1 then LF else if l_ = 2 then Lp0 else if l_ = 3 then Lp0_0 else if l_ = 4 then Lp0_1 else 0), hs.closeM_ft (o := o) (ρ := fun l_ => if l_ = 1 then LF else if l_ = 2 then Lp0 else if l_ = 3 then Lp0_0 else if l_ = 4 then Lp0_1 else 0) f120 (lab_at hoa (i := 1) rfl) rfl, f123.conv (fun _ h_ => hs.closeM_ft (o := o) (ρ := fun l_ => if l_ = 1 then LF else if l_ = 2 then Lp0 else if l_ = 3 then Lp0_0 else if l_ = 4 then Lp0_1 else 0) h_ (lab_at hoa (i := 2) rfl) rfl) (fun _ h_ => hs.closeM_ft (o := o) (ρ := fun l_ => if l_ = 1 then LF else if l_ = 2 then Lp0 else if l_ = 3 then Lp0_0 else if l_ = 4 then Lp0_1 else 0) h_ (lab_at hoa (i := 0) rfl) rfl), hc124, f127.conv (fun _ h_ => hs.closeM_ft (o := o) (ρ := fun l_ => if l_ = 1 then LF else if l_ = 2 then Lp0 else if l_ = 3 then Lp0_0 else if l_ = 4 then Lp0_1 else 0) h_ (lab_at hoa (i := 3) rfl) rfl) (fun _ h_ => hs.closeM_ft (o := o) (ρ := fun l_ => if l_ = 1 then LF else if l_ = 2 then Lp0 else if l_ = 3 then Lp0_0 else if l_ = 4 then Lp0_1 else 0) h_ (lab_at hoa (i := 0) rfl) rfl), hc128⟩

/-! (*tidewrack/seq.Parser).Feed -/
theorem seq_Parser_Feed_calls (K : Nat) (bp0 : Nat) (Ap0_0 : Option Addr) (cp0_0 : Nat) (Ap0_1 : Option Addr) (cp0_1 : Nat) (p0 : T30) (p1 : ByteArray) (w : World) (o : Nat → Nat) (LF : Nat) (Lg0 : Nat) (hg0 : Ft (RdC ET70 (some ⟨0, 0, none⟩) glob0) w o Lg0) (Lp0 : Nat) (hp0 : Ft (Bx bp0 31 [.int .i64 p0.state, .bool p0.order_private_, .bool p0.order_wrong, .bool p0.order_any, .bool p0.order_some, .int .i64 p0.order_n, .slice Ap0_0 (p0.order_nums).length cp0_0, .string p0.text, .int .u8 p0.runes_Lead, .int .i32 p0.runes_Rune, .int .i64 p0.runes_Need, .slice Ap0_1 (p0.out).length cp0_1]) w o Lp0) (Lp0_0 : Nat) (hp0_0 : CO (encInt .i64) 3 Ap0_0 cp0_0 p0.order_nums (p0.state == (3 : Int)) w o Lp0_0 LF) (hcp0_0 : (p0.order_nums).length ≤ cp0_0) (Lp0_1 : Nat) (hp0_1 : NOwn dT37 38 Ap0_1 cp0_1 p0.out w o Lp0_1 LF) (hcp0_1 : (p0.out).length ≤ cp0_1) (hd0 : ([LF, Lp0, Lp0_0, Lp0_1] : List Nat).Nodup) (hd1 : Lg0 ∉ [LF, Lp0, Lp0_0, Lp0_1]) (R0 : Nat) (r : (List T37) × T30) (H : seq_Parser_Feed K p0 p1 = some r) :
    Calls Tryd.prog 12 #[.pointer (some ⟨bp0, 0, none⟩), .string p1] w (Ret fun v_ w' => ∃ o' : Nat → Nat, ∃ A0 : Option Addr, ∃ c0 : Nat, ∃ A1 : Option Addr, ∃ c1 : Nat, v_ = .slice A0 (r.1).length c0 ∧ St [Lp0, Lp0_0, Lp0_1] w o w' o' ∧ NOwn dT37 38 A0 c0 r.1 w' o' R0 LF ∧ (r.1).length ≤ c0 ∧ Ft (Bx bp0 31 [.int .i64 r.2.state, .bool r.2.order_private_, .bool r.2.order_wrong, .bool r.2.order_any, .bool r.2.order_some, .int .i64 r.2.order_n, .slice A1 (r.2.order_nums).length c1, .string r.2.text, .int .u8 r.2.runes_Lead, .int .i32 r.2.runes_Rune, .int .i64 r.2.runes_Need, .slice none 0 0]) w' o' Lp0 ∧ CO (encInt .i64) 3 A1 c1 (r.2.order_nums) (r.2.state == (3 : Int)) w' o' Lp0_0 LF ∧ (r.2.order_nums).length ≤ c1 ∧ NOwn dT37 38 none 0 r.2.out w' o' Lp0_1 LF ∧ (r.2.out).length ≤ 0) := by
  refine x_enter (vs := [.pointer (some ⟨bp0, 0, none⟩), .string p1]) Tryd.func12 rfl rfl rfl fun a hk => ?_
  obtain ⟨oi, hs0, h0, h1, hob, hoz, hoa⟩ := St.startM2 w o (m := 4) hd0 rfl
  have hs := hs0 [2, 3, 4]
  have fg0 := h0 _ _ hd1 hg0
  have f900000 := hp0_0.conv (fun _ h_ => h1 2 3 h_ rfl rfl) (fun _ h_ => h1 0 1 h_ rfl rfl)
  have f900001 := hp0_1.conv (fun _ h_ => h1 3 4 h_ rfl rfl) (fun _ h_ => h1 0 1 h_ rfl rfl)
  have f900019 := h1 1 2 hp0 rfl rfl
  clear h0 h1 hs0
  rw [seq_Parser_Feed] at H
  refine x_seq ?_
  refine wpIn_region_lit ?_
  refine x_run tab hk (k := 1) (lv := []) (ks := [0, 1]) (e' := [(0, .pointer (some ⟨bp0, 0, none⟩)), (1, .string p1)]) rfl trivial fun a hk => ?_
  refine wpListIn_nil ?_
  refine then_n ?_
  refine x_mid (fun a_ w_ => ∃ o112 : Nat → Nat, ∃ x113 : Int, ∃ x114 : Bool, ∃ x115 : Bool, ∃ x116 : Bool, ∃ x117 : Bool, ∃ x118 : Int, ∃ A119 : Option Addr, ∃ c120 : Nat, ∃ l121 : List Int, ∃ x124 : ByteArray, ∃ x125 : Int, ∃ x126 : Int, ∃ x127 : Int, ∃ A128 : Option Addr, ∃ c129 : Nat, ∃ l130 : List T37, Kn 26 a_ [(0, .pointer (some ⟨bp0, 0, none⟩))] ∧ St [2, 3, 4] w oi w_ o112 ∧ CO (encInt .i64) 3 A119 c120 l121 (x113 == (3 : Int)) w_ o112 3 1 ∧ NOwn dT37 38 A128 c129 l130 w_ o112 4 1 ∧ Ft (Bx bp0 31 [.int .i64 x113, .bool x114, .bool x115, .bool x116, .bool x117, .int .i64 x118, .slice A119 (l121).length c120, .string x124, .int .u8 x125, .int .i32 x126, .int .i64 x127, .slice A128 (l130).length c129]) w_ o112 2 ∧ Ft (RdC ET70 (some ⟨0, 0, none⟩) glob0) w_ o112 0 ∧ (l121).length ≤ c120 ∧ (l130).length ≤ c129 ∧ seq_Parser_Feed_j1 x113 x114 x115 x116 x117 x118 l121 x124 x125 x126 x127 l130 = some r) ?_ ?_
  rotate_left
  · rintro a w133 ⟨o112, x113, x114, x115, x116, x117, x118, A119, c120, l121, x124, x125, x126, x127, A128, c129, l130, hk, hs, f122, f131, f900019, fg0, hc123, hc132, H⟩
    rw [seq_Parser_Feed_j1] at H
    refine x_seq ?_
    refine wpIn_region_lit ?_
    refine x_run tab hk (k := 5) (lv := [.slice A128 (l130).length c129]) (ks := [0, 6]) (e' := [(0, .pointer (some ⟨bp0, 0, none⟩)), (6, .slice A128 (l130).length c129)]) rfl ⟨(load1 tab rfl ((Bx.cell f900019.now 11).trans rfl)), trivial⟩ fun a hk => ?_
    refine wpListIn_nil ?_
    refine then_n ?_
    refine x_seq ?_
    refine wpIn_region_lit ?_
    refine x_run tab hk (k := 3) (lv := []) (ks := [6, 24]) (e' := [(6, .slice A128 (l130).length c129), (24, .pointer (some ((⟨bp0, 0, none⟩ : Addr).add 11)))]) rfl trivial fun a hk => ?_
    refine x_op hk rfl ?_
    refine op_store tab hk (t := 29) (v := .slice none 0 0) (b := bp0) (k := 11) (cs' := [.int .i64 x113, .bool x114, .bool x115, .bool x116, .bool x117, .int .i64 x118, .slice A119 (l121).length c120, .string x124, .int .u8 x125, .int .i32 x126, .int .i64 x127, .slice none 0 0]) rfl rfl rfl rfl rfl rfl f900019 rfl rfl fun w134 o135 st136 f900019_ => ?_
    replace f122 := f122.st st136 (by decide)
    replace f131 := f131.st st136 (by decide)
    replace fg0 := fg0.st st136 (by decide)
    replace hs := hs.locQ st136 hob rfl
    replace f900019 := f900019_
    refine wpListIn_nil ?_
    refine then_n ?_
    refine x_seq ?_
    refine wpIn_region_lit ?_
    refine x_run tab hk (k := 2) (lv := []) (ks := [4]) (e' := [(4, .slice A128 (l130).length c129)]) rfl trivial fun a hk => ?_
    refine wpListIn_nil ?_
    refine then_n ?_
    refine wpIn_ret ?_
    obtain rfl := Option.some.inj H
    exact x_retG hk (rs := [.tmp 4]) (vs := [.slice A128 (l130).length c129]) rfl ⟨rfl, trivial⟩ ⟨cl w oi o [2, 3, 4] (fun l_ => if l_ = 1 then LF else if l_ = 2 then Lp0 else if l_ = 3 then Lp0_0 else if l_ = 4 then R0 else 0) o135, A128, c129, A119, c120, rfl, hs.closeF (Lm := [Lp0, Lp0_0, Lp0_1]) (Sh := []) hoa rfl (fun l_ => if l_ = 1 then LF else if l_ = 2 then Lp0 else if l_ = 3 then Lp0_0 else if l_ = 4 then R0 else 0), f131.conv (fun _ h_ => hs.closeMM_ft (o := o) (ρ := fun l_ => if l_ = 1 then LF else if l_ = 2 then Lp0 else if l_ = 3 then Lp0_0 else if l_ = 4 then R0 else 0) h_ (by decide) rfl) (fun _ h_ => hs.closeM_ft (o := o) (ρ := fun l_ => if l_ = 1 then LF else if l_ = 2 then Lp0 else if l_ = 3 then Lp0_0 else if l_ = 4 then R0 else 0) h_ (lab_at hoa (i := 0) rfl) rfl), hc132, hs.closeM_ft (o := o) (ρ := fun l_ => if l_ = 1 then LF else if l_ = 2 then Lp0 else if l_ = 3 then Lp0_0 else if l_ = 4 then R0 else 0) f900019 (lab_at hoa (i := 1) rfl) rfl, f122.conv (fun _ h_ => hs.closeM_ft (o := o) (ρ := fun l_ => if l_ = 1 then LF else if l_ = 2 then Lp0 else if l_ = 3 then Lp0_0 else if l_ = 4 then R0 else 0) h_ (lab_at hoa (i := 2) rfl) rfl) (fun _ h_ => hs.closeM_ft (o := o) (ρ := fun l_ => if l_ = 1 then LF else if l_ = 2 then Lp0 else if l_ = 3 then Lp0_0 else if l_ = 4 then R0 else 0) h_ (lab_at hoa (i := 0) rfl) rfl), hc123, (NOwn.nil _ _ _ _ _ _), (Nat.le_refl _)⟩
  refine x_seq ?_
  refine wpIn_region_lit ?_
  refine x_run tab hk (k := 3) (lv := []) (ks := [0, 1, 8, 9]) (e' := [(0, .pointer (some ⟨bp0, 0, none⟩)), (1, .string p1), (8, .int .i64 ((p1).size : Int)), (9, .int .i64 0)]) rfl trivial fun a hk => ?_
  refine wpListIn_nil ?_
  refine then_n ?_
  refine wpIn_block ?_
  refine x_loop (fun j_ a_ w_ => ∃ o159 : Nat → Nat, ∃ x160 : Int, ∃ x161 : Bool, ∃ x162 : Bool, ∃ x163 : Bool, ∃ x164 : Bool, ∃ x165 : Int, ∃ A166 : Option Addr, ∃ c167 : Nat, ∃ l168 : List Int, ∃ x171 : ByteArray, ∃ x172 : Int, ∃ x173 : Int, ∃ x174 : Int, ∃ A175 : Option Addr, ∃ c176 : Nat, ∃ l177 : List T37, ∃ x180 : Int, Kn 26 a_ [(0, .pointer (some ⟨bp0, 0, none⟩)), (1, .string p1), (8, .int .i64 ((p1).size : Int)), (9, .int .i64 x180)] ∧ St [2, 3, 4] w oi w_ o159 ∧ CO (encInt .i64) 3 A166 c167 l168 (x160 == (3 : Int)) w_ o159 3 1 ∧ NOwn dT37 38 A175 c176 l177 w_ o159 4 1 ∧ Ft (Bx bp0 31 [.int .i64 x160, .bool x161, .bool x162, .bool x163, .bool x164, .int .i64 x165, .slice A166 (l168).length c167, .string x171, .int .u8 x172, .int .i32 x173, .int .i64 x174, .slice A175 (l177).length c176]) w_ o159 2 ∧ Ft (RdC ET70 (some ⟨0, 0, none⟩) glob0) w_ o159 0 ∧ (l168).length ≤ c167 ∧ (l177).length ≤ c176 ∧ seq_Parser_Feed_l2 K p1 j_ x160 x161 x162 x163 x164 x165 l168 x171 x172 x173 x174 l177 x180 = some r) (k := K) ⟨oi, p0.state, p0.order_private_, p0.order_wrong, p0.order_any, p0.order_some, p0.order_n, Ap0_0, cp0_0, p0.order_nums, p0.text, p0.runes_Lead, p0.runes_Rune, p0.runes_Need, Ap0_1, cp0_1, p0.out, 0, (by exact Kn.pick (ks := [0, 1, 8, 9]) hk rfl), hs, f900000, f900001, f900019, fg0, hcp0_0, hcp0_1, H⟩ (by rintro _ _ ⟨_, _, _, _, _, _, _, _, _, _, _, _, _, _, _, _, _, _, _, _, _, _, _, _, _, _, H_⟩; exact absurd (show (none : Option ((List T37) × T30)) = some r from H_) (by simp)) ?_
  rintro k201 a w200 ⟨o159, x160, x161, x162, x163, x164, x165, A166, c167, l168, x171, x172, x173, x174, A175, c176, l177, x180, hk, hs, f169, f178, f900019, fg0, hc170, hc179, H⟩
  rw [seq_Parser_Feed_l2] at H
  obtain ⟨lp202, hlp203⟩ : ∃ lp_, lp_ = seq_Parser_Feed_l2 K p1 k201 := ⟨_, rfl⟩
  rw [← hlp203] at H
  refine x_seq ?_
  refine wpIn_region_lit ?_
  refine x_run tab hk (k := 1) (lv := []) (ks := [0, 1, 8, 9, 10]) (e' := [(0, .pointer (some ⟨bp0, 0, none⟩)), (1, .string p1), (8, .int .i64 ((p1).size : Int)), (9, .int .i64 x180), (10, .bool (decide (x180 < ((p1).size : Int))))]) rfl trivial fun a hk => ?_
  refine wpListIn_nil ?_
  refine then_n ?_
  refine x_seq ?_
  cases b204 : (decide (x180 < ((p1).size : Int)))
  · rw [b204] at hk H
    replace H := bifF H
    refine x_if hk (b := false) rfl ?_
    refine (show Code.wpIn _ _ _ _ _ _ _ from ?_)
    refine wpIn_exit ?_
    refine then_x ?_
    refine then_x ?_
    refine blk_x ?_
    refine then_n ?_
    exact ⟨o159, x160, x161, x162, x163, x164, x165, A166, c167, l168, x171, x172, x173, x174, A175, c176, l177, (by exact Kn.pick (ks := [0]) hk rfl), hs, f169, f178, f900019, fg0, hc170, hc179, H⟩
  · rw [b204] at hk H
    replace H := bifT H
    refine x_if hk (b := true) rfl ?_
    refine (show Code.wpIn _ _ _ _ _ _ _ from ?_)
    refine wpIn_skip ?_
    refine then_n ?_
    refine x_seq ?_
    refine wpIn_block ?_
    refine x_seq ?_
    refine wpIn_region_lit ?_
    refine x_run tab hk (k := 2) (lv := []) (ks := [0, 1, 5, 8, 9]) (e' := [(0, .pointer (some ⟨bp0, 0, none⟩)), (1, .string p1), (5, .int .i64 x180), (8, .int .i64 ((p1).size : Int)), (9, .int .i64 x180)]) rfl trivial fun a hk => ?_
    refine wpListIn_nil ?_
    refine then_n ?_
    refine wpIn_region_lit ?_
    obtain ⟨q205, H⟩ := ifS H
    refine x_run tab hk (k := 4) (lv := []) (ks := [0, 1, 8, 9, 12, 15]) (e' := [(0, .pointer (some ⟨bp0, 0, none⟩)), (1, .string p1), (8, .int .i64 ((p1).size : Int)), (9, .int .i64 x180), (12, .pointer (some ⟨bp0, 0, none⟩)), (15, .int .u8 (bt p1 x180))]) rfl ⟨q205, trivial⟩ fun a hk => ?_
    refine x_op hk rfl ?_
    obtain ⟨t209, hc210, H⟩ := bindS H
    refine op_call hk ent_19 (vs := [.pointer (some ⟨bp0, 0, none⟩), .int .u8 (bt p1 x180)]) rfl (seq_Parser_one_calls K bp0 A166 c167 A175 c176 (⟨x160, x161, x162, x163, x164, x165, l168, x171, x172, x173, x174, l177⟩ : T30) (bt p1 x180) _ o159 1 0 fg0 2 f900019 3 f169 hc170 4 f178 hc179 (by decide) (by decide)   _ hc210) ?_
    rintro _ w211 ⟨o212, A215, c216, A219, c220, rfl, st213, f214, f217, hc218, f221, hc222⟩
    replace fg0 := fg0.st st213 (by decide)
    replace hs := hs.locQ st213 hob rfl
    have hk := hk.put 16 (.tuple #[]) rfl
    refine wpListIn_nil ?_
    refine blk_n ?_
    refine then_n ?_
    refine wpIn_region_lit ?_
    refine x_run tab hk (k := 2) (lv := []) (ks := [0, 1, 8, 9]) (e' := [(0, .pointer (some ⟨bp0, 0, none⟩)), (1, .string p1), (8, .int .i64 ((p1).size : Int)), (9, .int .i64 (IntKind.wrap .i64 (x180 + 1)))]) rfl trivial fun a hk => ?_
    refine wpListIn_nil ?_
    refine then_n ?_
    exact ⟨k201, Nat.le_refl _, o212, t209.state, t209.order_private_, t209.order_wrong, t209.order_any, t209.order_some, t209.order_n, A215, c216, t209.order_nums, t209.text, t209.runes_Lead, t209.runes_Rune, t209.runes_Need, A219, c220, t209.out, (IntKind.wrap .i64 (x180 + 1)), (by exact Kn.pick (ks := [0, 1, 8, 9]) hk rfl), hs, f217, f221, f214, fg0, hc218, hc222, (hlp203 ▸ H)⟩

/-! tidewrack/tidewracklaw01.Same -/
theorem tidewracklaw01_Same_calls (K : Nat) (Ap0 : Option Addr) (cp0 : Nat) (p0 : List Int) (Ap1 : Option Addr) (cp1 : Nat) (p1 : List Int) (w : World) (o : Nat → Nat) (Lp0 : Nat) (hp0 : Ft (RdC (encInt .i64) Ap0 p0) w o Lp0) (hcp0 : (p0).length ≤ cp0) (Lp1 : Nat) (hp1 : Ft (RdC (encInt .i64) Ap1 p1) w o Lp1) (hcp1 : (p1).length ≤ cp1)  (r : Bool) (H : tidewracklaw01_Same K p0 p1 = some r) :
    Calls Tryd.prog 18 #[.slice Ap0 (p0).length cp0, .slice Ap1 (p1).length cp1] w (Ret fun v_ w' => ∃ o' : Nat → Nat, v_ = .bool r ∧ St [] w o w' o') := by
  refine x_enter (vs := [.slice Ap0 (p0).length cp0, .slice Ap1 (p1).length cp1]) Tryd.func18 rfl rfl rfl fun a hk => ?_
  obtain ⟨o0, hs, h0⟩ := St.start w o
  have f900000 := h0 _ _ hp0
  have f900020 := h0 _ _ hp1
  clear h0
  rw [tidewracklaw01_Same] at H
  refine x_seq ?_
  refine wpIn_region_lit ?_
  refine x_run tab hk (k := 1) (lv := []) (ks := [0, 1]) (e' := [(0, .slice Ap0 (p0).length cp0), (1, .slice Ap1 (p1).length cp1)]) rfl trivial fun a hk => ?_
  refine wpListIn_nil ?_
  refine then_n ?_
  refine x_seq ?_
  refine x_seq ?_
  refine wpIn_region_lit ?_
  refine x_run tab hk (k := 5) (lv := []) (ks := [0, 1, 10]) (e' := [(0, .slice Ap0 (p0).length cp0), (1, .slice Ap1 (p1).length cp1), (10, .bool (((p0).length : Int) != ((p1).length : Int)))]) rfl trivial fun a hk => ?_
  refine wpListIn_nil ?_
  refine then_n ?_
  cases b1 : (((p0).length : Int) != ((p1).length : Int))
  · rw [b1] at hk H
    replace H := bifF H
    refine x_if hk (b := false) rfl ?_
    refine (show Code.wpIn _ _ _ _ _ _ _ from ?_)
    refine wpIn_skip ?_
    refine then_n ?_
    refine x_mid (fun a_ w_ => ∃ o62 : Nat → Nat, Kn 26 a_ [] ∧ St [] w (fun _ => 0) w_ o62 ∧ tidewracklaw01_Same_j1 = some r) ?_ ?_
    rotate_left
    · rintro a w63 ⟨o62, hk, hs, H⟩
      rw [tidewracklaw01_Same_j1] at H
      refine x_seq ?_
      refine wpIn_region_lit ?_
      refine x_run tab hk (k := 1) (lv := []) (ks := [4]) (e' := [(4, .bool true)]) rfl trivial fun a hk => ?_
      refine wpListIn_nil ?_
      refine then_n ?_
      refine wpIn_ret ?_
      obtain rfl := Option.some.inj H
      exact x_retG hk (rs := [.tmp 4]) (vs := [.bool true]) rfl ⟨rfl, trivial⟩ ⟨fun b_ => if b_ < w.heap.size then o b_ else (fun _ => 0) (o62 b_), rfl, hs.close0 o (fun _ => 0)⟩
    refine x_seq ?_
    refine wpIn_region_lit ?_
    refine x_run tab hk (k := 3) (lv := []) (ks := [0, 1, 12, 13]) (e' := [(0, .slice Ap0 (p0).length cp0), (1, .slice Ap1 (p1).length cp1), (12, .int .i64 ((p0).length : Int)), (13, .int .i64 0)]) rfl trivial fun a hk => ?_
    refine wpListIn_nil ?_
    refine then_n ?_
    refine wpIn_block ?_
    refine x_loop (fun j_ a_ w_ => ∃ o83 : Nat → Nat, ∃ x84 : Int, Kn 26 a_ [(0, .slice Ap0 (p0).length cp0), (1, .slice Ap1 (p1).length cp1), (12, .int .i64 ((p0).length : Int)), (13, .int .i64 x84)] ∧ St [] w (fun _ => 0) w_ o83 ∧ Ft (RdC (encInt .i64) Ap0 p0) w_ o83 0 ∧ Ft (RdC (encInt .i64) Ap1 p1) w_ o83 0 ∧ tidewracklaw01_Same_l2 p0 p1 j_ x84 = some r) (k := K) ⟨o0, 0, (by exact Kn.pick (ks := [0, 1, 12, 13]) hk rfl), hs, f900000, f900020, H⟩ (by rintro _ _ ⟨_, _, _, _, _, _, H_⟩; exact absurd (show (none : Option Bool) = some r from H_) (by simp)) ?_
    rintro k102 a w101 ⟨o83, x84, hk, hs, f900000, f900020, H⟩
    rw [tidewracklaw01_Same_l2] at H
    obtain ⟨lp103, hlp104⟩ : ∃ lp_, lp_ = tidewracklaw01_Same_l2 p0 p1 k102 := ⟨_, rfl⟩
    rw [← hlp104] at H
    refine x_seq ?_
    refine wpIn_region_lit ?_
    refine x_run tab hk (k := 1) (lv := []) (ks := [0, 1, 12, 13, 14]) (e' := [(0, .slice Ap0 (p0).length cp0), (1, .slice Ap1 (p1).length cp1), (12, .int .i64 ((p0).length : Int)), (13, .int .i64 x84), (14, .bool (decide (x84 < ((p0).length : Int))))]) rfl trivial fun a hk => ?_
    refine wpListIn_nil ?_
    refine then_n ?_
    refine x_seq ?_
    cases b105 : (decide (x84 < ((p0).length : Int)))
    · rw [b105] at hk H
      replace H := bifF H
      refine x_if hk (b := false) rfl ?_
      refine (show Code.wpIn _ _ _ _ _ _ _ from ?_)
      refine wpIn_exit ?_
      refine then_x ?_
      refine then_x ?_
      refine blk_x ?_
      refine then_n ?_
      exact ⟨o83, (by exact Kn.pick (ks := []) hk rfl), hs, H⟩
    · rw [b105] at hk H
      replace H := bifT H
      refine x_if hk (b := true) rfl ?_
      refine (show Code.wpIn _ _ _ _ _ _ _ from ?_)
      refine wpIn_skip ?_
      refine then_n ?_
      refine x_seq ?_
      refine wpIn_block ?_
      refine x_seq ?_
      refine wpIn_region_lit ?_
      refine x_run tab hk (k := 2) (lv := []) (ks := [0, 1, 5, 12, 13]) (e' := [(0, .slice Ap0 (p0).length cp0), (1, .slice Ap1 (p1).length cp1), (5, .int .i64 x84), (12, .int .i64 ((p0).length : Int)), (13, .int .i64 x84)]) rfl trivial fun a hk => ?_
      refine wpListIn_nil ?_
      refine then_n ?_
      refine x_seq ?_
      refine xd_begin (o := o83) (fun W_ => (RdC (encInt .i64) Ap0 p0) W_ ∧ (RdC (encInt .i64) Ap1 p1) W_ ∧ True) mixed rfl rfl fun w114 st115 => ?_
      replace f900000 := f900000.st st115 (by decide)
      replace f900020 := f900020.st st115 (by decide)
      replace hs := hs.loc0 st115 (by decide)
      obtain ⟨q116, H⟩ := ifS H
      obtain ⟨ad117, hAad117⟩ := RdC.addr f900000.now q116
      have hk_C := hk
      have f900000_C := f900000
      have f900020_C := f900020
      subst hAad117
      have hk := hk_C
      clear hk_C
      have f900000 := f900000_C
      clear f900000_C
      have f900020 := f900020_C
      clear f900020_C
      obtain ⟨q118, H⟩ := ifS H
      obtain ⟨ad119, hAad119⟩ := RdC.addr f900020.now q118
      have hk_C := hk
      have f900000_C := f900000
      have f900020_C := f900020
      subst hAad119
      have hk := hk_C
      clear hk_C
      have f900000 := f900000_C
      clear f900000_C
      have f900020 := f900020_C
      clear f900020_C
      refine xd_take tab hk (k := 0) (is := [0, 1, 2, 3, 4, 5, 6, 7, 8]) (ls' := #[true, true, true, true, true, true, true, true, true]) (lv := [.int .i64 (rdD 0 p0 x84), .int .i64 (rdD 0 p1 x84)]) (ks := [0, 1, 12, 13, 24]) (e' := [(0, .slice (some ad117) (p0).length cp0), (1, .slice (some ad119) (p1).length cp1), (12, .int .i64 ((p0).length : Int)), (13, .int .i64 x84), (24, .bool ((rdD 0 p0 x84) != (rdD 0 p1 x84)))]) (by kernel_rfl) rfl rfl (by kernel_rfl) (np_then (np_blk (np_then (np_then (np_blk (np_then np_body)))))) ⟨f900000.now, f900020.now, trivial⟩ (fun W_ hS => ⟨q116, (load1 tab rfl (RdC.at0 (E := (encInt .i64)) (d := 0) (i := x84) hS.1 q116 rfl)), q118, (load1 tab rfl (RdC.at0 (E := (encInt .i64)) (d := 0) (i := x84) hS.2.1 q118 rfl)), trivial⟩) fun a hk => ?_
      refine xd_done (by kernel_rfl) ?_
      refine then_n ?_
      cases b120 : ((rdD 0 p0 x84) != (rdD 0 p1 x84))
      · rw [b120] at hk H
        replace H := bifF H
        refine x_if hk (b := false) rfl ?_
        refine (show Code.wpIn _ _ _ _ _ _ _ from ?_)
        refine wpIn_skip ?_
        refine blk_n ?_
        refine then_n ?_
        refine wpIn_region_lit ?_
        refine x_run tab hk (k := 2) (lv := []) (ks := [0, 1, 12, 13]) (e' := [(0, .slice (some ad117) (p0).length cp0), (1, .slice (some ad119) (p1).length cp1), (12, .int .i64 ((p0).length : Int)), (13, .int .i64 (IntKind.wrap .i64 (x84 + 1)))]) rfl trivial fun a hk => ?_
        refine wpListIn_nil ?_
        refine then_n ?_
        exact ⟨k102, Nat.le_refl _, o83, (IntKind.wrap .i64 (x84 + 1)), (by exact Kn.pick (ks := [0, 1, 12, 13]) hk rfl), hs, f900000, f900020, (hlp104 ▸ H)⟩
      · rw [b120] at hk H
        replace H := bifT H
        refine x_if hk (b := true) rfl ?_
        refine (show Code.wpIn _ _ _ _ _ _ _ from ?_)
        refine x_seq ?_
        refine wpIn_region_lit ?_
        refine x_run tab hk (k := 1) (lv := []) (ks := [4]) (e' := [(4, .bool false)]) rfl trivial fun a hk => ?_
        refine wpListIn_nil ?_
        refine then_n ?_
        refine wpIn_ret ?_
        refine blk_r ?_
        refine then_r ?_
        refine then_r ?_
        refine blk_r ?_
        refine then_r ?_
        obtain rfl := Option.some.inj H
        exact x_retG hk (rs := [.tmp 4]) (vs := [.bool false]) rfl ⟨rfl, trivial⟩ ⟨fun b_ => if b_ < w.heap.size then o b_ else (fun _ => 0) (o83 b_), rfl, hs.close0 o (fun _ => 0)⟩
  · rw [b1] at hk H
    replace H := bifT H
    refine x_if hk (b := true) rfl ?_
    refine (show Code.wpIn _ _ _ _ _ _ _ from ?_)
    refine x_seq ?_
    refine wpIn_region_lit ?_
    refine x_run tab hk (k := 1) (lv := []) (ks := [4]) (e' := [(4, .bool false)]) rfl trivial fun a hk => ?_
    refine wpListIn_nil ?_
    refine then_n ?_
    refine wpIn_ret ?_
    refine then_r ?_
    obtain rfl := Option.some.inj H
    exact x_retG hk (rs := [.tmp 4]) (vs := [.bool false]) rfl ⟨rfl, trivial⟩ ⟨fun b_ => if b_ < w.heap.size then o b_ else (fun _ => 0) (o0 b_), rfl, hs.close0 o (fun _ => 0)⟩

/-! tidewrack/tidewracklaw07.awake -/
theorem tidewracklaw07_awake_calls (K : Nat)  (w : World) (o : Nat → Nat) (Lg0 : Nat) (hg0 : Ft (RdC ET70 (some ⟨0, 0, none⟩) glob0) w o Lg0)   (r : Bool) (H : tidewracklaw07_awake K = some r) :
    Calls Tryd.prog 9 #[] w (Ret fun v_ w' => ∃ o' : Nat → Nat, v_ = .bool r ∧ St [] w o w' o') := by
  refine x_enter (vs := []) Tryd.func9 rfl rfl rfl fun a hk => ?_
  obtain ⟨o0, hs, h0⟩ := St.start w o
  have fg0 := h0 _ _ hg0
  clear h0
  rw [tidewracklaw07_awake] at H
  refine x_seq ?_
  refine wpIn_region_lit ?_
  refine x_run tab hk (k := 1) (lv := []) (ks := []) (e' := []) rfl trivial fun a hk => ?_
  refine wpListIn_nil ?_
  refine then_n ?_
  refine x_seq ?_
  refine wpIn_region_lit ?_
  refine x_op hk rfl ?_
  refine op_alloc (o := o0) tab (t := 31) (cs := [.int .i64 0, .bool false, .bool false, .bool false, .bool false, .int .i64 0, .slice none 0 0, .string (⟨#[]⟩ : ByteArray), .int .u8 0, .int .i32 0, .int .i64 0, .slice none 0 0]) rfl rfl 2 fun bx4 w1 o2 st3 f5 => ?_
  replace fg0 := fg0.st st3 (by decide)
  replace hs := hs.loc0 st3 (by decide)
  have hk := hk.put 1 (.pointer (some ⟨bx4, 0, none⟩)) rfl
  refine wpListIn_nil ?_
  refine then_n ?_
  refine x_seq ?_
  refine wpIn_region_lit ?_
  refine x_op hk rfl ?_
  obtain ⟨t9, hc10, H⟩ := bindS H
  refine op_call hk ent_12 (vs := [.pointer (some ⟨bx4, 0, none⟩), .string (⟨#[97, 27, 91, 51, 49, 59, 109]⟩ : ByteArray)]) rfl (seq_Parser_Feed_calls K bx4 none 0 none 0 (⟨0, false, false, false, false, 0, ([] : List Int), (⟨#[]⟩ : ByteArray), 0, 0, 0, ([] : List T37)⟩ : T30) (⟨#[97, 27, 91, 51, 49, 59, 109]⟩ : ByteArray) _ o2 1 0 fg0 2 f5 3 (CO.nil _ _ _ _ _ _ _) (by simp) 4 (NOwn.nil _ _ _ _ 4 1) (by simp) (by decide) (by decide) 5  _ hc10) ?_
  rintro _ w11 ⟨o12, A14, c15, A19, c20, rfl, st13, f16, hc17, f18, f21, hc22, f23, hc24⟩
  replace fg0 := fg0.st st13 (by decide)
  replace hs := hs.loc0 st13 (by decide)
  have hz25 : t9.2.out = [] := NRd.nul f23.rd
  have hk := hk.put 3 (.slice A14 (t9.1).length c15) rfl
  refine x_run tab hk (k := 1) (lv := []) (ks := [2]) (e' := [(2, .slice A14 (t9.1).length c15)]) rfl trivial fun a hk => ?_
  refine wpListIn_nil ?_
  refine then_n ?_
  refine x_seq ?_
  refine wpIn_region_lit ?_
  refine x_run tab hk (k := 4) (lv := []) (ks := [2, 7]) (e' := [(2, .slice A14 (t9.1).length c15), (7, .bool (((t9.1).length : Int) == (2 : Int)))]) rfl trivial fun a hk => ?_
  cases b26 : (((t9.1).length : Int) == (2 : Int))
  · rw [b26] at hk H
    replace H := bifF H
    refine x_run tab hk (k := 12) (lv := []) (ks := [2, 14, 19]) (e' := [(2, .slice A14 (t9.1).length c15), (14, .bool false), (19, undef)]) rfl trivial fun a hk => ?_
    refine x_run tab hk (k := 14) (lv := []) (ks := [2, 28, 33]) (e' := [(2, .slice A14 (t9.1).length c15), (28, .bool false), (33, undef)]) rfl trivial fun a hk => ?_
    refine x_run tab hk (k := 10) (lv := []) (ks := [0]) (e' := [(0, .bool false)]) rfl trivial fun a hk => ?_
    refine wpListIn_nil ?_
    refine then_n ?_
    refine wpIn_ret ?_
    obtain rfl := Option.some.inj H
    exact x_retG hk (rs := [.tmp 0]) (vs := [.bool false]) rfl ⟨rfl, trivial⟩ ⟨fun b_ => if b_ < w.heap.size then o b_ else (fun _ => 0) (o12 b_), rfl, hs.close0 o (fun _ => 0)⟩
  · rw [b26] at hk H
    replace H := bifT H
    obtain ⟨q27, H⟩ := ifS H
    obtain ⟨ad28, hAad28⟩ := NRd.addr f16.rd q27
    have hk_C := hk
    have f16_C := f16
    have fg0_C := fg0
    subst hAad28
    have hk := hk_C
    clear hk_C
    have f16 := f16_C
    clear f16_C
    have fg0 := fg0_C
    clear fg0_C
    obtain ⟨A29, c30, f31, f32, hc33⟩ := elT37 f16.rd (i := (0 : Int)) q27
    refine x_run tab hk (k := 7) (lv := [.int .i64 ((rdD zT37 t9.1 0).Kind)]) (ks := [2, 14]) (e' := [(2, .slice (some ad28) (t9.1).length c15), (14, .bool (((rdD zT37 t9.1 0).Kind) == (1 : Int)))]) rfl ⟨q27, (CellsAt.one f31.now tab rfl 0 rfl), trivial⟩ fun a hk => ?_
    cases b34 : (((rdD zT37 t9.1 0).Kind) == (1 : Int))
    · rw [b34] at hk H
      replace H := bifF H
      refine x_run tab hk (k := 12) (lv := []) (ks := [2, 21, 26]) (e' := [(2, .slice (some ad28) (t9.1).length c15), (21, .bool false), (26, undef)]) rfl trivial fun a hk => ?_
      refine x_run tab hk (k := 15) (lv := []) (ks := [35, 41]) (e' := [(35, .bool false), (41, undef)]) rfl trivial fun a hk => ?_
      refine x_run tab hk (k := 2) (lv := []) (ks := [0]) (e' := [(0, .bool false)]) rfl trivial fun a hk => ?_
      refine wpListIn_nil ?_
      refine then_n ?_
      refine wpIn_ret ?_
      obtain rfl := Option.some.inj H
      exact x_retG hk (rs := [.tmp 0]) (vs := [.bool false]) rfl ⟨rfl, trivial⟩ ⟨fun b_ => if b_ < w.heap.size then o b_ else (fun _ => 0) (o12 b_), rfl, hs.close0 o (fun _ => 0)⟩
    · rw [b34] at hk H
      replace H := bifT H
      obtain ⟨A35, c36, f37, f38, hc39⟩ := elT37 f16.rd (i := (0 : Int)) q27
      refine x_run tab hk (k := 7) (lv := [.int .i32 ((rdD zT37 t9.1 0).Rune)]) (ks := [2, 21]) (e' := [(2, .slice (some ad28) (t9.1).length c15), (21, .bool (((rdD zT37 t9.1 0).Rune) == (97 : Int)))]) rfl ⟨q27, (CellsAt.one f37.now tab rfl 1 rfl), trivial⟩ fun a hk => ?_
      cases b40 : (((rdD zT37 t9.1 0).Rune) == (97 : Int))
      · rw [b40] at hk H
        replace H := bifF H
        refine x_run tab hk (k := 12) (lv := []) (ks := [2, 28, 33]) (e' := [(2, .slice (some ad28) (t9.1).length c15), (28, .bool false), (33, undef)]) rfl trivial fun a hk => ?_
        refine x_run tab hk (k := 10) (lv := []) (ks := [0]) (e' := [(0, .bool false)]) rfl trivial fun a hk => ?_
        refine wpListIn_nil ?_
        refine then_n ?_
        refine wpIn_ret ?_
        obtain rfl := Option.some.inj H
        exact x_retG hk (rs := [.tmp 0]) (vs := [.bool false]) rfl ⟨rfl, trivial⟩ ⟨fun b_ => if b_ < w.heap.size then o b_ else (fun _ => 0) (o12 b_), rfl, hs.close0 o (fun _ => 0)⟩
      · rw [b40] at hk H
        replace H := bifT H
        obtain ⟨q41, H⟩ := ifS H
        obtain ⟨A42, c43, f44, f45, hc46⟩ := elT37 f16.rd (i := (1 : Int)) q41
        refine x_run tab hk (k := 7) (lv := [.int .i64 ((rdD zT37 t9.1 1).Kind)]) (ks := [2, 28]) (e' := [(2, .slice (some ad28) (t9.1).length c15), (28, .bool (((rdD zT37 t9.1 1).Kind) == (4 : Int)))]) rfl ⟨q41, (CellsAt.one f44.now tab rfl 0 rfl), trivial⟩ fun a hk => ?_
        cases b47 : (((rdD zT37 t9.1 1).Kind) == (4 : Int))
        · rw [b47] at hk H
          replace H := bifF H
          refine x_run tab hk (k := 13) (lv := []) (ks := [35, 41]) (e' := [(35, .bool false), (41, undef)]) rfl trivial fun a hk => ?_
          refine x_run tab hk (k := 2) (lv := []) (ks := [0]) (e' := [(0, .bool false)]) rfl trivial fun a hk => ?_
          refine wpListIn_nil ?_
          refine then_n ?_
          refine wpIn_ret ?_
          obtain rfl := Option.some.inj H
          exact x_retG hk (rs := [.tmp 0]) (vs := [.bool false]) rfl ⟨rfl, trivial⟩ ⟨fun b_ => if b_ < w.heap.size then o b_ else (fun _ => 0) (o12 b_), rfl, hs.close0 o (fun _ => 0)⟩
        · rw [b47] at hk H
          replace H := bifT H
          obtain ⟨A48, c49, f50, f51, hc52⟩ := elT37 f16.rd (i := (1 : Int)) q41
          refine x_run tab hk (k := 7) (lv := [.int .u8 ((rdD zT37 t9.1 1).Byte)]) (ks := [2, 35]) (e' := [(2, .slice (some ad28) (t9.1).length c15), (35, .bool (((rdD zT37 t9.1 1).Byte) == (109 : Int)))]) rfl ⟨q41, (CellsAt.one f50.now tab rfl 2 rfl), trivial⟩ fun a hk => ?_
          cases b53 : (((rdD zT37 t9.1 1).Byte) == (109 : Int))
          · rw [b53] at hk H
            replace H := bifF H
            refine x_run tab hk (k := 8) (lv := []) (ks := [0]) (e' := [(0, .bool false)]) rfl trivial fun a hk => ?_
            refine wpListIn_nil ?_
            refine then_n ?_
            refine wpIn_ret ?_
            obtain rfl := Option.some.inj H
            exact x_retG hk (rs := [.tmp 0]) (vs := [.bool false]) rfl ⟨rfl, trivial⟩ ⟨fun b_ => if b_ < w.heap.size then o b_ else (fun _ => 0) (o12 b_), rfl, hs.close0 o (fun _ => 0)⟩
          · rw [b53] at hk H
            replace H := bifT H
            obtain ⟨A54, c55, f56, f57, hc58⟩ := elT37 f16.rd (i := (1 : Int)) q41
            refine x_run tab hk (k := 4) (lv := [.slice A54 ((rdD zT37 t9.1 1).Nums).length c55]) (ks := [35, 39]) (e' := [(35, .bool true), (39, .slice A54 ((rdD zT37 t9.1 1).Nums).length c55)]) rfl ⟨q41, (CellsAt.one f56.now tab rfl 4 rfl), trivial⟩ fun a hk => ?_
            refine x_op hk rfl ?_
            refine op_slice (o := o12) tab hk (vs := [.int .i64 31, .int .i64 0]) (cs := [.int .i64 31, .int .i64 0]) rfl rfl rfl rfl rfl rfl rfl rfl rfl 6 fun bx62 w59 o60 st61 f63 => ?_
            replace f57 := f57.st st61 (by decide)
            replace fg0 := fg0.st st61 (by decide)
            replace hs := hs.loc0 st61 (by decide)
            have f64 : Ft (Own (encInt .i64) 3 (.slice (some ⟨bx62, 0, none⟩) (([31, 0] : List Int)).length 2) ([31, 0] : List Int)) w59 o60 6 := f63.imp fun _ h_ => Own.of_box h_ rfl (by simp)
            have hk := hk.put 40 (.slice (some ⟨bx62, 0, none⟩) (([31, 0] : List Int)).length 2) rfl
            refine x_op hk rfl ?_
            obtain ⟨t68, hc69, H⟩ := bindS H
            refine op_call hk ent_18 (vs := [.slice A54 ((rdD zT37 t9.1 1).Nums).length c55, .slice (some ⟨bx62, 0, none⟩) (([31, 0] : List Int)).length 2]) rfl (tidewracklaw01_Same_calls K A54 c55 ((rdD zT37 t9.1 1).Nums) (some ⟨bx62, 0, none⟩) 2 ([31, 0] : List Int) _ o60 _ f57 hc58 _ (f64.imp fun _ h_ => Own.rd h_) (Nat.le_refl _)   _ hc69) ?_
            rintro _ w70 ⟨o71, rfl, st72⟩
            replace f57 := f57.st st72 (by decide)
            replace f64 := f64.st st72 (by decide)
            replace fg0 := fg0.st st72 (by decide)
            replace hs := hs.loc0 st72 (by decide)
            have hk := hk.put 41 (.bool t68) rfl
            refine x_run tab hk (k := 2) (lv := []) (ks := [0]) (e' := [(0, .bool t68)]) rfl trivial fun a hk => ?_
            refine wpListIn_nil ?_
            refine then_n ?_
            refine wpIn_ret ?_
            obtain rfl := Option.some.inj H
            exact x_retG hk (rs := [.tmp 0]) (vs := [.bool t68]) rfl ⟨rfl, trivial⟩ ⟨fun b_ => if b_ < w.heap.size then o b_ else (fun _ => 0) (o71 b_), rfl, hs.close0 o (fun _ => 0)⟩

/-! tidewrack/tidewracklaw01.Cut -/
theorem tidewracklaw01_Cut_calls (p0 : ByteArray) (p1 : Int) (w : World) (o : Nat → Nat)   (r : ByteArray) (H : tidewracklaw01_Cut p0 p1 = some r) :
    Calls Tryd.prog 10 #[.string p0, .int .i64 p1] w (Ret fun v_ w' => ∃ o' : Nat → Nat, v_ = .string r ∧ St [] w o w' o') := by
  refine x_enter (vs := [.string p0, .int .i64 p1]) Tryd.func10 rfl rfl rfl fun a hk => ?_
  obtain ⟨o0, hs, h0⟩ := St.start w o
  clear h0
  rw [tidewracklaw01_Cut] at H
  refine x_seq ?_
  refine wpIn_region_lit ?_
  refine x_run tab hk (k := 1) (lv := []) (ks := [0, 1]) (e' := [(0, .string p0), (1, .int .i64 p1)]) rfl trivial fun a hk => ?_
  refine wpListIn_nil ?_
  refine then_n ?_
  refine x_seq ?_
  refine x_seq ?_
  refine wpIn_region_lit ?_
  refine x_run tab hk (k := 4) (lv := []) (ks := [0, 1, 8]) (e' := [(0, .string p0), (1, .int .i64 p1), (8, .bool (decide (((p0).size : Int) > p1)))]) rfl trivial fun a hk => ?_
  refine wpListIn_nil ?_
  refine then_n ?_
  cases b1 : (decide (((p0).size : Int) > p1))
  · rw [b1] at hk H
    replace H := bifF H
    refine x_if hk (b := false) rfl ?_
    refine (show Code.wpIn _ _ _ _ _ _ _ from ?_)
    refine wpIn_skip ?_
    refine then_n ?_
    refine x_seq ?_
    refine wpIn_region_lit ?_
    refine x_run tab hk (k := 2) (lv := []) (ks := [4]) (e' := [(4, .string p0)]) rfl trivial fun a hk => ?_
    refine wpListIn_nil ?_
    refine then_n ?_
    refine wpIn_ret ?_
    obtain rfl := Option.some.inj H
    exact x_retG hk (rs := [.tmp 4]) (vs := [.string p0]) rfl ⟨rfl, trivial⟩ ⟨fun b_ => if b_ < w.heap.size then o b_ else (fun _ => 0) (o0 b_), rfl, hs.close0 o (fun _ => 0)⟩
  · rw [b1] at hk H
    replace H := bifT H
    refine x_if hk (b := true) rfl ?_
    refine (show Code.wpIn _ _ _ _ _ _ _ from ?_)
    refine x_seq ?_
    refine wpIn_region_lit ?_
    obtain ⟨q2, H⟩ := ifS H
    obtain ⟨q3, H⟩ := ifS H
    refine x_run tab hk (k := 4) (lv := []) (ks := [4]) (e' := [(4, .string (ByteArray.extract p0 0 (Int.toNat p1)))]) rfl ⟨q2, q3, trivial⟩ fun a hk => ?_
    refine wpListIn_nil ?_
    refine then_n ?_
    refine wpIn_ret ?_
    refine then_r ?_
    obtain rfl := Option.some.inj H
    exact x_retG hk (rs := [.tmp 4]) (vs := [.string (ByteArray.extract p0 0 (Int.toNat p1))]) rfl ⟨rfl, trivial⟩ ⟨fun b_ => if b_ < w.heap.size then o b_ else (fun _ => 0) (o0 b_), rfl, hs.close0 o (fun _ => 0)⟩

/-! tidewrack/tidewrackref05.need -/
theorem tidewrackref05_need_calls (p0 : Int) (w : World) (o : Nat → Nat)   (r : Int × Int × Int) (H : tidewrackref05_need p0 = some r) :
    Calls Tryd.prog 24 #[.int .i64 p0] w (Ret fun v_ w' => ∃ o' : Nat → Nat, v_ = .tuple #[.int .i64 r.1, .int .i64 r.2.1, .int .i64 r.2.2] ∧ St [] w o w' o') := by
  refine x_enter (vs := [.int .i64 p0]) Tryd.func24 rfl rfl rfl fun a hk => ?_
  obtain ⟨o0, hs, h0⟩ := St.start w o
  clear h0
  rw [tidewrackref05_need] at H
  refine x_seq ?_
  refine wpIn_region_lit ?_
  refine x_run tab hk (k := 3) (lv := []) (ks := [0]) (e' := [(0, .int .i64 p0)]) rfl trivial fun a hk => ?_
  refine wpListIn_nil ?_
  refine then_n ?_
  refine x_mid (fun a_ w_ => ∃ o16 : Nat → Nat, Kn 31 a_ [(0, .int .i64 p0)] ∧ St [] w (fun _ => 0) w_ o16 ∧ tidewrackref05_need_j1 p0 = some r) ?_ ?_
  rotate_left
  · rintro a w17 ⟨o16, hk, hs, H⟩
    rw [tidewrackref05_need_j1] at H
    refine x_seq ?_
    refine x_seq ?_
    refine wpIn_region_lit ?_
    refine x_run tab hk (k := 2) (lv := []) (ks := [0, 12]) (e' := [(0, .int .i64 p0), (12, .bool (p0 == (224 : Int)))]) rfl trivial fun a hk => ?_
    refine wpListIn_nil ?_
    refine then_n ?_
    cases b18 : (p0 == (224 : Int))
    · rw [b18] at hk H
      replace H := bifF H
      refine x_if hk (b := false) rfl ?_
      refine (show Code.wpIn _ _ _ _ _ _ _ from ?_)
      refine wpIn_skip ?_
      refine then_n ?_
      refine x_seq ?_
      refine x_seq ?_
      refine wpIn_region_lit ?_
      refine x_run tab hk (k := 2) (lv := []) (ks := [0, 14]) (e' := [(0, .int .i64 p0), (14, .bool (p0 == (237 : Int)))]) rfl trivial fun a hk => ?_
      refine wpListIn_nil ?_
      refine then_n ?_
      cases b19 : (p0 == (237 : Int))
      · rw [b19] at hk H
        replace H := bifF H
        refine x_if hk (b := false) rfl ?_
        refine (show Code.wpIn _ _ _ _ _ _ _ from ?_)
        refine wpIn_skip ?_
        refine then_n ?_
        refine x_mid (fun a_ w_ => ∃ o35 : Nat → Nat, Kn 31 a_ [(0, .int .i64 p0)] ∧ St [] w (fun _ => 0) w_ o35 ∧ tidewrackref05_need_j2 p0 = some r) ?_ ?_
        rotate_left
        · rintro a w36 ⟨o35, hk, hs, H⟩
          rw [tidewrackref05_need_j2] at H
          refine x_seq ?_
          refine x_seq ?_
          refine wpIn_region_lit ?_
          refine x_run tab hk (k := 2) (lv := []) (ks := [0, 22]) (e' := [(0, .int .i64 p0), (22, .bool (p0 == (240 : Int)))]) rfl trivial fun a hk => ?_
          refine wpListIn_nil ?_
          refine then_n ?_
          cases b37 : (p0 == (240 : Int))
          · rw [b37] at hk H
            replace H := bifF H
            refine x_if hk (b := false) rfl ?_
            refine (show Code.wpIn _ _ _ _ _ _ _ from ?_)
            refine wpIn_skip ?_
            refine then_n ?_
            refine x_seq ?_
            refine x_seq ?_
            refine wpIn_region_lit ?_
            refine x_run tab hk (k := 2) (lv := []) (ks := [0, 24]) (e' := [(0, .int .i64 p0), (24, .bool (p0 == (244 : Int)))]) rfl trivial fun a hk => ?_
            refine wpListIn_nil ?_
            refine then_n ?_
            cases b38 : (p0 == (244 : Int))
            · rw [b38] at hk H
              replace H := bifF H
              refine x_if hk (b := false) rfl ?_
              refine (show Code.wpIn _ _ _ _ _ _ _ from ?_)
              refine wpIn_skip ?_
              refine then_n ?_
              refine x_seq ?_
              refine x_mid (fun a_ w_ => ∃ o46 : Nat → Nat, ∃ x47 : Bool, Kn 31 a_ [(30, .bool x47)] ∧ St [] w (fun _ => 0) w_ o46 ∧ tidewrackref05_need_j3 x47 = some r) ?_ ?_
              rotate_left
              · rintro a w48 ⟨o46, x47, hk, hs, H⟩
                rw [tidewrackref05_need_j3] at H
                cases b49 : x47
                · rw [b49] at hk H
                  replace H := bifF H
                  refine x_if hk (b := false) rfl ?_
                  refine (show Code.wpIn _ _ _ _ _ _ _ from ?_)
                  refine wpIn_skip ?_
                  refine then_n ?_
                  refine x_seq ?_
                  refine wpIn_region_lit ?_
                  refine x_run tab hk (k := 3) (lv := []) (ks := [2, 3, 4]) (e' := [(2, .int .i64 0), (3, .int .i64 0), (4, .int .i64 0)]) rfl trivial fun a hk => ?_
                  refine wpListIn_nil ?_
                  refine then_n ?_
                  refine wpIn_ret ?_
                  obtain rfl := Option.some.inj H
                  exact x_retG hk (rs := [.tmp 2, .tmp 3, .tmp 4]) (vs := [.int .i64 0, .int .i64 0, .int .i64 0]) rfl ⟨rfl, rfl, rfl, trivial⟩ ⟨fun b_ => if b_ < w.heap.size then o b_ else (fun _ => 0) (o46 b_), rfl, hs.close0 o (fun _ => 0)⟩
                · rw [b49] at hk H
                  replace H := bifT H
                  refine x_if hk (b := true) rfl ?_
                  refine (show Code.wpIn _ _ _ _ _ _ _ from ?_)
                  refine x_seq ?_
                  refine wpIn_region_lit ?_
                  refine x_run tab hk (k := 3) (lv := []) (ks := [2, 3, 4]) (e' := [(2, .int .i64 3), (3, .int .i64 128), (4, .int .i64 191)]) rfl trivial fun a hk => ?_
                  refine wpListIn_nil ?_
                  refine then_n ?_
                  refine wpIn_ret ?_
                  refine then_r ?_
                  obtain rfl := Option.some.inj H
                  exact x_retG hk (rs := [.tmp 2, .tmp 3, .tmp 4]) (vs := [.int .i64 3, .int .i64 128, .int .i64 191]) rfl ⟨rfl, rfl, rfl, trivial⟩ ⟨fun b_ => if b_ < w.heap.size then o b_ else (fun _ => 0) (o46 b_), rfl, hs.close0 o (fun _ => 0)⟩
              refine wpIn_region_lit ?_
              refine x_run tab hk (k := 3) (lv := []) (ks := [0, 27]) (e' := [(0, .int .i64 p0), (27, .bool (decide (p0 ≥ (241 : Int))))]) rfl trivial fun a hk => ?_
              cases b50 : (decide (p0 ≥ (241 : Int)))
              · rw [b50] at hk H
                replace H := bifF H
                refine x_run tab hk (k := 3) (lv := []) (ks := [30]) (e' := [(30, .bool false)]) rfl trivial fun a hk => ?_
                refine wpListIn_nil ?_
                refine then_n ?_
                exact ⟨o35, false, (by exact Kn.pick (ks := [30]) hk rfl), hs, H⟩
              · rw [b50] at hk H
                replace H := bifT H
                refine x_run tab hk (k := 3) (lv := []) (ks := [30]) (e' := [(30, .bool (decide (p0 ≤ (243 : Int))))]) rfl trivial fun a hk => ?_
                refine wpListIn_nil ?_
                refine then_n ?_
                exact ⟨o35, (decide (p0 ≤ (243 : Int))), (by exact Kn.pick (ks := [30]) hk rfl), hs, H⟩
            · rw [b38] at hk H
              replace H := bifT H
              refine x_if hk (b := true) rfl ?_
              refine (show Code.wpIn _ _ _ _ _ _ _ from ?_)
              refine x_seq ?_
              refine wpIn_region_lit ?_
              refine x_run tab hk (k := 3) (lv := []) (ks := [2, 3, 4]) (e' := [(2, .int .i64 3), (3, .int .i64 128), (4, .int .i64 143)]) rfl trivial fun a hk => ?_
              refine wpListIn_nil ?_
              refine then_n ?_
              refine wpIn_ret ?_
              refine then_r ?_
              obtain rfl := Option.some.inj H
              exact x_retG hk (rs := [.tmp 2, .tmp 3, .tmp 4]) (vs := [.int .i64 3, .int .i64 128, .int .i64 143]) rfl ⟨rfl, rfl, rfl, trivial⟩ ⟨fun b_ => if b_ < w.heap.size then o b_ else (fun _ => 0) (o35 b_), rfl, hs.close0 o (fun _ => 0)⟩
          · rw [b37] at hk H
            replace H := bifT H
            refine x_if hk (b := true) rfl ?_
            refine (show Code.wpIn _ _ _ _ _ _ _ from ?_)
            refine x_seq ?_
            refine wpIn_region_lit ?_
            refine x_run tab hk (k := 3) (lv := []) (ks := [2, 3, 4]) (e' := [(2, .int .i64 3), (3, .int .i64 144), (4, .int .i64 191)]) rfl trivial fun a hk => ?_
            refine wpListIn_nil ?_
            refine then_n ?_
            refine wpIn_ret ?_
            refine then_r ?_
            obtain rfl := Option.some.inj H
            exact x_retG hk (rs := [.tmp 2, .tmp 3, .tmp 4]) (vs := [.int .i64 3, .int .i64 144, .int .i64 191]) rfl ⟨rfl, rfl, rfl, trivial⟩ ⟨fun b_ => if b_ < w.heap.size then o b_ else (fun _ => 0) (o35 b_), rfl, hs.close0 o (fun _ => 0)⟩
        refine x_mid (fun a_ w_ => ∃ o58 : Nat → Nat, ∃ x59 : Bool, Kn 31 a_ [(0, .int .i64 p0), (20, .bool x59)] ∧ St [] w (fun _ => 0) w_ o58 ∧ tidewrackref05_need_j4 p0 x59 = some r) ?_ ?_
        rotate_left
        · rintro a w60 ⟨o58, x59, hk, hs, H⟩
          rw [tidewrackref05_need_j4] at H
          cases b61 : x59
          · rw [b61] at hk H
            replace H := bifF H
            refine x_if hk (b := false) rfl ?_
            refine (show Code.wpIn _ _ _ _ _ _ _ from ?_)
            refine wpIn_skip ?_
            refine then_n ?_
            exact ⟨o58, (by exact Kn.pick (ks := [0]) hk rfl), hs, H⟩
          · rw [b61] at hk H
            replace H := bifT H
            refine x_if hk (b := true) rfl ?_
            refine (show Code.wpIn _ _ _ _ _ _ _ from ?_)
            refine x_seq ?_
            refine wpIn_region_lit ?_
            refine x_run tab hk (k := 3) (lv := []) (ks := [2, 3, 4]) (e' := [(2, .int .i64 2), (3, .int .i64 128), (4, .int .i64 191)]) rfl trivial fun a hk => ?_
            refine wpListIn_nil ?_
            refine then_n ?_
            refine wpIn_ret ?_
            refine then_r ?_
            obtain rfl := Option.some.inj H
            exact x_retG hk (rs := [.tmp 2, .tmp 3, .tmp 4]) (vs := [.int .i64 2, .int .i64 128, .int .i64 191]) rfl ⟨rfl, rfl, rfl, trivial⟩ ⟨fun b_ => if b_ < w.heap.size then o b_ else (fun _ => 0) (o58 b_), rfl, hs.close0 o (fun _ => 0)⟩
        refine wpIn_region_lit ?_
        refine x_run tab hk (k := 3) (lv := []) (ks := [0, 17]) (e' := [(0, .int .i64 p0), (17, .bool (decide (p0 ≥ (225 : Int))))]) rfl trivial fun a hk => ?_
        cases b62 : (decide (p0 ≥ (225 : Int)))
        · rw [b62] at hk H
          replace H := bifF H
          refine x_run tab hk (k := 3) (lv := []) (ks := [0, 20]) (e' := [(0, .int .i64 p0), (20, .bool false)]) rfl trivial fun a hk => ?_
          refine wpListIn_nil ?_
          refine then_n ?_
          exact ⟨o16, false, (by exact Kn.pick (ks := [0, 20]) hk rfl), hs, H⟩
        · rw [b62] at hk H
          replace H := bifT H
          refine x_run tab hk (k := 3) (lv := []) (ks := [0, 20]) (e' := [(0, .int .i64 p0), (20, .bool (decide (p0 ≤ (239 : Int))))]) rfl trivial fun a hk => ?_
          refine wpListIn_nil ?_
          refine then_n ?_
          exact ⟨o16, (decide (p0 ≤ (239 : Int))), (by exact Kn.pick (ks := [0, 20]) hk rfl), hs, H⟩
      · rw [b19] at hk H
        replace H := bifT H
        refine x_if hk (b := true) rfl ?_
        refine (show Code.wpIn _ _ _ _ _ _ _ from ?_)
        refine x_seq ?_
        refine wpIn_region_lit ?_
        refine x_run tab hk (k := 3) (lv := []) (ks := [2, 3, 4]) (e' := [(2, .int .i64 2), (3, .int .i64 128), (4, .int .i64 159)]) rfl trivial fun a hk => ?_
        refine wpListIn_nil ?_
        refine then_n ?_
        refine wpIn_ret ?_
        refine then_r ?_
        obtain rfl := Option.some.inj H
        exact x_retG hk (rs := [.tmp 2, .tmp 3, .tmp 4]) (vs := [.int .i64 2, .int .i64 128, .int .i64 159]) rfl ⟨rfl, rfl, rfl, trivial⟩ ⟨fun b_ => if b_ < w.heap.size then o b_ else (fun _ => 0) (o16 b_), rfl, hs.close0 o (fun _ => 0)⟩
    · rw [b18] at hk H
      replace H := bifT H
      refine x_if hk (b := true) rfl ?_
      refine (show Code.wpIn _ _ _ _ _ _ _ from ?_)
      refine x_seq ?_
      refine wpIn_region_lit ?_
      refine x_run tab hk (k := 3) (lv := []) (ks := [2, 3, 4]) (e' := [(2, .int .i64 2), (3, .int .i64 160), (4, .int .i64 191)]) rfl trivial fun a hk => ?_
      refine wpListIn_nil ?_
      refine then_n ?_
      refine wpIn_ret ?_
      refine then_r ?_
      obtain rfl := Option.some.inj H
      exact x_retG hk (rs := [.tmp 2, .tmp 3, .tmp 4]) (vs := [.int .i64 2, .int .i64 160, .int .i64 191]) rfl ⟨rfl, rfl, rfl, trivial⟩ ⟨fun b_ => if b_ < w.heap.size then o b_ else (fun _ => 0) (o16 b_), rfl, hs.close0 o (fun _ => 0)⟩
  refine x_mid (fun a_ w_ => ∃ o70 : Nat → Nat, ∃ x71 : Bool, Kn 31 a_ [(0, .int .i64 p0), (10, .bool x71)] ∧ St [] w (fun _ => 0) w_ o70 ∧ tidewrackref05_need_j5 p0 x71 = some r) ?_ ?_
  rotate_left
  · rintro a w72 ⟨o70, x71, hk, hs, H⟩
    rw [tidewrackref05_need_j5] at H
    cases b73 : x71
    · rw [b73] at hk H
      replace H := bifF H
      refine x_if hk (b := false) rfl ?_
      refine (show Code.wpIn _ _ _ _ _ _ _ from ?_)
      refine wpIn_skip ?_
      refine then_n ?_
      exact ⟨o70, (by exact Kn.pick (ks := [0]) hk rfl), hs, H⟩
    · rw [b73] at hk H
      replace H := bifT H
      refine x_if hk (b := true) rfl ?_
      refine (show Code.wpIn _ _ _ _ _ _ _ from ?_)
      refine x_seq ?_
      refine wpIn_region_lit ?_
      refine x_run tab hk (k := 3) (lv := []) (ks := [2, 3, 4]) (e' := [(2, .int .i64 1), (3, .int .i64 128), (4, .int .i64 191)]) rfl trivial fun a hk => ?_
      refine wpListIn_nil ?_
      refine then_n ?_
      refine wpIn_ret ?_
      refine then_r ?_
      obtain rfl := Option.some.inj H
      exact x_retG hk (rs := [.tmp 2, .tmp 3, .tmp 4]) (vs := [.int .i64 1, .int .i64 128, .int .i64 191]) rfl ⟨rfl, rfl, rfl, trivial⟩ ⟨fun b_ => if b_ < w.heap.size then o b_ else (fun _ => 0) (o70 b_), rfl, hs.close0 o (fun _ => 0)⟩
  refine wpIn_region_lit ?_
  refine x_run tab hk (k := 3) (lv := []) (ks := [0, 7]) (e' := [(0, .int .i64 p0), (7, .bool (decide (p0 ≥ (194 : Int))))]) rfl trivial fun a hk => ?_
  cases b74 : (decide (p0 ≥ (194 : Int)))
  · rw [b74] at hk H
    replace H := bifF H
    refine x_run tab hk (k := 3) (lv := []) (ks := [0, 10]) (e' := [(0, .int .i64 p0), (10, .bool false)]) rfl trivial fun a hk => ?_
    refine wpListIn_nil ?_
    refine then_n ?_
    exact ⟨o0, false, (by exact Kn.pick (ks := [0, 10]) hk rfl), hs, H⟩
  · rw [b74] at hk H
    replace H := bifT H
    refine x_run tab hk (k := 3) (lv := []) (ks := [0, 10]) (e' := [(0, .int .i64 p0), (10, .bool (decide (p0 ≤ (223 : Int))))]) rfl trivial fun a hk => ?_
    refine wpListIn_nil ?_
    refine then_n ?_
    exact ⟨o0, (decide (p0 ≤ (223 : Int))), (by exact Kn.pick (ks := [0, 10]) hk rfl), hs, H⟩

/-! tidewrack/tidewrackref05.Runes -/
theorem tidewrackref05_Runes_calls (K : Nat) (p0 : ByteArray) (w : World) (o : Nat → Nat)   (R0 : Nat) (r : (List Int) × Int) (H : tidewrackref05_Runes K p0 = some r) :
    Calls Tryd.prog 16 #[.string p0] w (Ret fun v_ w' => ∃ o' : Nat → Nat, ∃ A0 : Option Addr, ∃ c0 : Nat, v_ = .tuple #[.slice A0 (r.1).length c0, .int .i64 r.2] ∧ St [] w o w' o' ∧ Ft (Own (encInt .i64) 3 (.slice A0 (r.1).length c0) r.1) w' o' R0 ∧ (r.1).length ≤ c0) := by
  refine x_enter (vs := [.string p0]) Tryd.func16 rfl rfl rfl fun a hk => ?_
  obtain ⟨o0, hs, h0⟩ := St.start w o
  clear h0
  rw [tidewrackref05_Runes] at H
  refine x_seq ?_
  refine wpIn_region_lit ?_
  refine x_run tab hk (k := 2) (lv := []) (ks := [0]) (e' := [(0, .string p0)]) rfl trivial fun a hk => ?_
  refine wpListIn_nil ?_
  refine then_n ?_
  refine x_seq ?_
  refine wpIn_region_lit ?_
  refine x_op hk rfl ?_
  refine op_slice (o := o0) tab hk (vs := []) (cs := []) rfl rfl rfl rfl rfl rfl rfl rfl rfl 1 fun bx4 w1 o2 st3 f5 => ?_
  replace hs := hs.loc0 st3 (by decide)
  have f6 : Ft (Own (encInt .i64) 3 (.slice (some ⟨bx4, 0, none⟩) (([] : List Int)).length 0) ([] : List Int)) w1 o2 1 := f5.imp fun _ h_ => Own.of_box h_ rfl (by simp)
  have hk := hk.put 13 (.slice (some ⟨bx4, 0, none⟩) (([] : List Int)).length 0) rfl
  refine x_run tab hk (k := 1) (lv := []) (ks := [0, 4]) (e' := [(0, .string p0), (4, .slice (some ⟨bx4, 0, none⟩) (([] : List Int)).length 0)]) rfl trivial fun a hk => ?_
  refine wpListIn_nil ?_
  refine then_n ?_
  refine x_seq ?_
  refine wpIn_region_lit ?_
  refine x_run tab hk (k := 1) (lv := []) (ks := [0, 4, 5]) (e' := [(0, .string p0), (4, .slice (some ⟨bx4, 0, none⟩) (([] : List Int)).length 0), (5, .int .i64 0)]) rfl trivial fun a hk => ?_
  refine wpListIn_nil ?_
  refine then_n ?_
  refine x_mid (fun a_ w_ => ∃ o712 : Nat → Nat, ∃ A713 : Option Addr, ∃ c714 : Nat, ∃ l715 : List Int, Kn 103 a_ [(4, .slice A713 (l715).length c714)] ∧ St [] w (fun _ => 0) w_ o712 ∧ Ft (Own (encInt .i64) 3 (.slice A713 (l715).length c714) l715) w_ o712 70 ∧ (l715).length ≤ c714 ∧ tidewrackref05_Runes_j1 l715 = some r) ?_ ?_
  rotate_left
  · rintro a w718 ⟨o712, A713, c714, l715, hk, hs, f716, hc717, H⟩
    rw [tidewrackref05_Runes_j1] at H
    refine x_seq ?_
    refine wpIn_region_lit ?_
    refine x_run tab hk (k := 3) (lv := []) (ks := [2, 3]) (e' := [(2, .slice A713 (l715).length c714), (3, .int .i64 0)]) rfl trivial fun a hk => ?_
    refine wpListIn_nil ?_
    refine then_n ?_
    refine wpIn_ret ?_
    obtain rfl := Option.some.inj H
    exact x_retG hk (rs := [.tmp 2, .tmp 3]) (vs := [.slice A713 (l715).length c714, .int .i64 0]) rfl ⟨rfl, rfl, trivial⟩ ⟨fun b_ => if b_ < w.heap.size then o b_ else (fun _ => R0) (o712 b_), A713, c714, rfl, hs.close0 o (fun _ => R0), hs.close_ft (o := o) (ρ := fun _ => R0) f716 (by decide) rfl, hc717⟩
  refine wpIn_block ?_
  refine x_loop (fun j_ a_ w_ => ∃ o949 : Nat → Nat, ∃ A950 : Option Addr, ∃ c951 : Nat, ∃ l952 : List Int, ∃ x955 : Int, Kn 103 a_ [(0, .string p0), (4, .slice A950 (l952).length c951), (5, .int .i64 x955)] ∧ St [] w (fun _ => 0) w_ o949 ∧ Ft (Own (encInt .i64) 3 (.slice A950 (l952).length c951) l952) w_ o949 94 ∧ (l952).length ≤ c951 ∧ tidewrackref05_Runes_l2 K p0 j_ l952 x955 = some r) (k := K) ⟨(fun b_ => (fun l_ => if l_ = 1 then 94 else l_) (o2 b_)), (some ⟨bx4, 0, none⟩), 0, ([] : List Int), 0, (by exact Kn.pick (ks := [0, 4, 5]) hk rfl), (hs.relab0 (fun l_ => if l_ = 1 then 94 else l_) rfl), (f6.relab (fun l_ => if l_ = 1 then 94 else l_) rfl), (Nat.le_refl _), H⟩ (by rintro _ _ ⟨_, _, _, _, _, _, _, _, _, H_⟩; exact absurd (show (none : Option ((List Int) × Int)) = some r from H_) (by simp)) ?_
  rintro k1184 a w1183 ⟨o949, A950, c951, l952, x955, hk, hs, f953, hc954, H⟩
  rw [tidewrackref05_Runes_l2] at H
  obtain ⟨lp1185, hlp1186⟩ : ∃ lp_, lp_ = tidewrackref05_Runes_l2 K p0 k1184 := ⟨_, rfl⟩
  rw [← hlp1186] at H
  refine x_seq ?_
  refine x_seq ?_
  refine wpIn_region_lit ?_
  refine x_run tab hk (k := 4) (lv := []) (ks := [0, 4, 5, 17]) (e' := [(0, .string p0), (4, .slice A950 (l952).length c951), (5, .int .i64 x955), (17, .bool (decide (x955 < ((p0).size : Int))))]) rfl trivial fun a hk => ?_
  refine wpListIn_nil ?_
  refine then_n ?_
  cases b1187 : (decide (x955 < ((p0).size : Int)))
  · rw [b1187] at hk H
    replace H := bifF H
    refine x_if hk (b := false) rfl ?_
    refine (show Code.wpIn _ _ _ _ _ _ _ from ?_)
    refine wpIn_exit ?_
    refine then_x ?_
    refine then_x ?_
    refine blk_x ?_
    refine then_n ?_
    exact ⟨(fun b_ => (fun l_ => if l_ = 94 then 70 else l_) (o949 b_)), A950, c951, l952, (by exact Kn.pick (ks := [4]) hk rfl), (hs.relab0 (fun l_ => if l_ = 94 then 70 else l_) rfl), (f953.relab (fun l_ => if l_ = 94 then 70 else l_) rfl), hc954, H⟩
  · rw [b1187] at hk H
    replace H := bifT H
    refine x_if hk (b := true) rfl ?_
    refine (show Code.wpIn _ _ _ _ _ _ _ from ?_)
    refine wpIn_skip ?_
    refine then_n ?_
    refine wpIn_block ?_
    refine x_seq ?_
    refine wpIn_region_lit ?_
    obtain ⟨q1188, H⟩ := ifS H
    refine x_run tab hk (k := 5) (lv := []) (ks := [0, 4, 5, 6]) (e' := [(0, .string p0), (4, .slice A950 (l952).length c951), (5, .int .i64 x955), (6, .int .i64 (IntKind.wrap .i64 (bt p0 x955)))]) rfl ⟨q1188, trivial⟩ fun a hk => ?_
    refine wpListIn_nil ?_
    refine then_n ?_
    refine x_seq ?_
    refine x_seq ?_
    refine wpIn_region_lit ?_
    refine x_run tab hk (k := 2) (lv := []) (ks := [0, 4, 5, 6, 23]) (e' := [(0, .string p0), (4, .slice A950 (l952).length c951), (5, .int .i64 x955), (6, .int .i64 (IntKind.wrap .i64 (bt p0 x955))), (23, .bool (decide ((IntKind.wrap .i64 (bt p0 x955)) < (128 : Int))))]) rfl trivial fun a hk => ?_
    refine wpListIn_nil ?_
    refine then_n ?_
    cases b1189 : (decide ((IntKind.wrap .i64 (bt p0 x955)) < (128 : Int)))
    · rw [b1189] at hk H
      replace H := bifF H
      refine x_if hk (b := false) rfl ?_
      refine (show Code.wpIn _ _ _ _ _ _ _ from ?_)
      refine wpIn_skip ?_
      refine then_n ?_
      refine x_seq ?_
      refine wpIn_region_lit ?_
      refine x_run tab hk (k := 1) (lv := []) (ks := [0, 4, 5, 6, 31]) (e' := [(0, .string p0), (4, .slice A950 (l952).length c951), (5, .int .i64 x955), (6, .int .i64 (IntKind.wrap .i64 (bt p0 x955))), (31, .int .i64 (IntKind.wrap .i64 (bt p0 x955)))]) rfl trivial fun a hk => ?_
      refine x_op hk rfl ?_
      obtain ⟨t1193, hc1194, H⟩ := bindS H
      refine op_call hk ent_24 (vs := [.int .i64 (IntKind.wrap .i64 (bt p0 x955))]) rfl (tidewrackref05_need_calls (IntKind.wrap .i64 (bt p0 x955)) _ o949    _ hc1194) ?_
      rintro _ w1195 ⟨o1196, rfl, st1197⟩
      replace f953 := f953.st st1197 (by decide)
      replace hs := hs.loc0 st1197 (by decide)
      have hk := hk.put 32 (.tuple #[.int .i64 t1193.1, .int .i64 t1193.2.1, .int .i64 t1193.2.2]) rfl
      refine x_run tab hk (k := 7) (lv := []) (ks := [0, 4, 5, 6, 7, 8, 9]) (e' := [(0, .string p0), (4, .slice A950 (l952).length c951), (5, .int .i64 x955), (6, .int .i64 (IntKind.wrap .i64 (bt p0 x955))), (7, .int .i64 t1193.1), (8, .int .i64 t1193.2.1), (9, .int .i64 t1193.2.2)]) rfl trivial fun a hk => ?_
      refine wpListIn_nil ?_
      refine then_n ?_
      refine x_seq ?_
      refine x_seq ?_
      refine wpIn_region_lit ?_
      refine x_run tab hk (k := 2) (lv := []) (ks := [0, 4, 5, 6, 7, 8, 9, 37]) (e' := [(0, .string p0), (4, .slice A950 (l952).length c951), (5, .int .i64 x955), (6, .int .i64 (IntKind.wrap .i64 (bt p0 x955))), (7, .int .i64 t1193.1), (8, .int .i64 t1193.2.1), (9, .int .i64 t1193.2.2), (37, .bool (t1193.1 == (0 : Int)))]) rfl trivial fun a hk => ?_
      refine wpListIn_nil ?_
      refine then_n ?_
      cases b1198 : (t1193.1 == (0 : Int))
      · rw [b1198] at hk H
        replace H := bifF H
        refine x_if hk (b := false) rfl ?_
        refine (show Code.wpIn _ _ _ _ _ _ _ from ?_)
        refine wpIn_skip ?_
        refine then_n ?_
        refine x_seq ?_
        refine wpIn_region_lit ?_
        refine x_run tab hk (k := 1) (lv := []) (ks := [0, 4, 5, 7, 8, 9, 43]) (e' := [(0, .string p0), (4, .slice A950 (l952).length c951), (5, .int .i64 x955), (7, .int .i64 t1193.1), (8, .int .i64 t1193.2.1), (9, .int .i64 t1193.2.2), (43, .int .i64 (IntKind.wrap .i64 (bt p0 x955)))]) rfl trivial fun a hk => ?_
        refine x_op hk rfl ?_
        refine op_slice (o := o1196) tab hk (vs := [.int .i64 0, .int .i64 32, .int .i64 16, .int .i64 8]) (cs := [.int .i64 0, .int .i64 32, .int .i64 16, .int .i64 8]) rfl rfl rfl rfl rfl rfl rfl rfl rfl 117 fun bx1202 w1199 o1200 st1201 f1203 => ?_
        replace f953 := f953.st st1201 (by decide)
        replace hs := hs.loc0 st1201 (by decide)
        have f1204 : Ft (Own (encInt .i64) 3 (.slice (some ⟨bx1202, 0, none⟩) (([0, 32, 16, 8] : List Int)).length 4) ([0, 32, 16, 8] : List Int)) w1199 o1200 117 := f1203.imp fun _ h_ => Own.of_box h_ rfl (by simp)
        have hk := hk.put 44 (.slice (some ⟨bx1202, 0, none⟩) (([0, 32, 16, 8] : List Int)).length 4) rfl
        obtain ⟨q1205, H⟩ := ifS H
        obtain ⟨q1206, H⟩ := ifS H
        refine x_run tab hk (k := 5) (lv := [.int .i64 (rdD 0 ([0, 32, 16, 8] : List Int) t1193.1)]) (ks := [0, 4, 5, 7, 8, 9, 10]) (e' := [(0, .string p0), (4, .slice A950 (l952).length c951), (5, .int .i64 x955), (7, .int .i64 t1193.1), (8, .int .i64 t1193.2.1), (9, .int .i64 t1193.2.2), (10, .int .i64 (Int.tmod (IntKind.wrap .i64 (bt p0 x955)) (rdD 0 ([0, 32, 16, 8] : List Int) t1193.1)))]) rfl ⟨q1205, (load1 tab rfl (RdC.at0 (E := (encInt .i64)) (d := 0) (i := t1193.1) (Own.rd f1204.now) q1205 rfl)), q1206, trivial⟩ fun a hk => ?_
        refine wpListIn_nil ?_
        refine then_n ?_
        refine x_seq ?_
        refine wpIn_region_lit ?_
        refine x_run tab hk (k := 1) (lv := []) (ks := [0, 4, 5, 7, 8, 9, 10, 11]) (e' := [(0, .string p0), (4, .slice A950 (l952).length c951), (5, .int .i64 x955), (7, .int .i64 t1193.1), (8, .int .i64 t1193.2.1), (9, .int .i64 t1193.2.2), (10, .int .i64 (Int.tmod (IntKind.wrap .i64 (bt p0 x955)) (rdD 0 ([0, 32, 16, 8] : List Int) t1193.1))), (11, .int .i64 1)]) rfl trivial fun a hk => ?_
        refine wpListIn_nil ?_
        refine then_n ?_
        refine x_mid (fun a_ w_ => ∃ o1283 : Nat → Nat, ∃ x1284 : Int, ∃ x1285 : Int, Kn 103 a_ [(0, .string p0), (4, .slice A950 (l952).length c951), (5, .int .i64 x955), (7, .int .i64 t1193.1), (10, .int .i64 x1284), (11, .int .i64 x1285)] ∧ St [] w (fun _ => 0) w_ o1283 ∧ Ft (Own (encInt .i64) 3 (.slice A950 (l952).length c951) l952) w_ o1283 126 ∧ tidewrackref05_Runes_j3 p0 l952 x955 lp1185 t1193 x1284 x1285 = some r) ?_ ?_
        rotate_left
        · rintro a w1286 ⟨o1283, x1284, x1285, hk, hs, f953, H⟩
          rw [tidewrackref05_Runes_j3] at H
          refine x_seq ?_
          refine x_seq ?_
          refine wpIn_region_lit ?_
          refine x_run tab hk (k := 3) (lv := []) (ks := [0, 4, 5, 10, 11, 83]) (e' := [(0, .string p0), (4, .slice A950 (l952).length c951), (5, .int .i64 x955), (10, .int .i64 x1284), (11, .int .i64 x1285), (83, .bool (decide (x1285 > t1193.1)))]) rfl trivial fun a hk => ?_
          refine wpListIn_nil ?_
          refine then_n ?_
          cases b1287 : (decide (x1285 > t1193.1))
          · rw [b1287] at hk H
            replace H := bifF H
            refine x_if hk (b := false) rfl ?_
            refine (show Code.wpIn _ _ _ _ _ _ _ from ?_)
            refine x_seq ?_
            refine wpIn_region_lit ?_
            refine x_run tab hk (k := 6) (lv := []) (ks := [0, 4, 5, 11, 93]) (e' := [(0, .string p0), (4, .slice A950 (l952).length c951), (5, .int .i64 x955), (11, .int .i64 x1285), (93, .bool ((IntKind.wrap .i64 (x955 + x1285)) == ((p0).size : Int)))]) rfl trivial fun a hk => ?_
            refine wpListIn_nil ?_
            refine then_n ?_
            cases b1288 : ((IntKind.wrap .i64 (x955 + x1285)) == ((p0).size : Int))
            · rw [b1288] at hk H
              replace H := bifF H
              refine x_if hk (b := false) rfl ?_
              refine (show Code.wpIn _ _ _ _ _ _ _ from ?_)
              refine wpIn_region_lit ?_
              refine x_run tab hk (k := 1) (lv := []) (ks := [0, 5, 11, 96]) (e' := [(0, .string p0), (5, .int .i64 x955), (11, .int .i64 x1285), (96, .slice A950 (l952).length c951)]) rfl trivial fun a hk => ?_
              refine x_op hk rfl ?_
              refine op_slice (o := o1283) tab hk (vs := [.int .i64 65533]) (cs := [.int .i64 65533]) rfl rfl rfl rfl rfl rfl rfl rfl rfl 127 fun bx1292 w1289 o1290 st1291 f1293 => ?_
              replace f953 := f953.st st1291 (by decide)
              replace hs := hs.loc0 st1291 (by decide)
              have f1294 : Ft (Own (encInt .i64) 3 (.slice (some ⟨bx1292, 0, none⟩) (([65533] : List Int)).length 1) ([65533] : List Int)) w1289 o1290 127 := f1293.imp fun _ h_ => Own.of_box h_ rfl (by simp)
              have hk := hk.put 97 (.slice (some ⟨bx1292, 0, none⟩) (([65533] : List Int)).length 1) rfl
              refine x_op hk rfl ?_
              obtain ⟨q1298, H⟩ := ifS H
              refine op_append (o := o1290) (E := (encInt .i64)) (xs := l952) (ys := ([65533] : List Int)) tab hk rfl rfl rfl rfl rfl rfl rfl f953 (Own.rd f1294.now) q1298 fun A1299 c1300 w1295 o1296 st1297 f1301 hc1302 => ?_
              replace f1294 := f1294.st st1297 (by decide)
              replace hs := hs.loc0 st1297 (by decide)
              have hk := hk.put 98 (.slice A1299 ((l952 ++ ([65533] : List Int))).length c1300) rfl
              refine x_run tab hk (k := 1) (lv := []) (ks := [0, 4, 5, 11]) (e' := [(0, .string p0), (4, .slice A1299 ((l952 ++ ([65533] : List Int))).length c1300), (5, .int .i64 x955), (11, .int .i64 x1285)]) rfl trivial fun a hk => ?_
              refine wpListIn_nil ?_
              refine then_n ?_
              refine wpIn_region_lit ?_
              refine x_run tab hk (k := 4) (lv := []) (ks := [0, 4, 5]) (e' := [(0, .string p0), (4, .slice A1299 ((l952 ++ ([65533] : List Int))).length c1300), (5, .int .i64 (IntKind.wrap .i64 (x955 + x1285)))]) rfl trivial fun a hk => ?_
              refine wpListIn_nil ?_
              refine blk_n ?_
              refine then_n ?_
              exact ⟨k1184, Nat.le_refl _, (fun b_ => (fun l_ => if l_ = 126 then 94 else l_) (o1296 b_)), A1299, c1300, (l952 ++ ([65533] : List Int)), (IntKind.wrap .i64 (x955 + x1285)), (by exact Kn.pick (ks := [0, 4, 5]) hk rfl), (hs.relab0 (fun l_ => if l_ = 126 then 94 else l_) rfl), (f1301.relab (fun l_ => if l_ = 126 then 94 else l_) rfl), hc1302, (hlp1186 ▸ H)⟩
            · rw [b1288] at hk H
              replace H := bifT H
              refine x_if hk (b := true) rfl ?_
              refine (show Code.wpIn _ _ _ _ _ _ _ from ?_)
              refine x_seq ?_
              refine wpIn_region_lit ?_
              refine x_run tab hk (k := 4) (lv := []) (ks := [2, 3]) (e' := [(2, .slice A950 (l952).length c951), (3, .int .i64 x1285)]) rfl trivial fun a hk => ?_
              refine wpListIn_nil ?_
              refine then_n ?_
              refine wpIn_ret ?_
              refine then_r ?_
              refine blk_r ?_
              refine then_r ?_
              refine blk_r ?_
              refine then_r ?_
              obtain rfl := Option.some.inj H
              exact x_retG hk (rs := [.tmp 2, .tmp 3]) (vs := [.slice A950 (l952).length c951, .int .i64 x1285]) rfl ⟨rfl, rfl, trivial⟩ ⟨fun b_ => if b_ < w.heap.size then o b_ else (fun _ => R0) (o1283 b_), A950, c951, rfl, hs.close0 o (fun _ => R0), hs.close_ft (o := o) (ρ := fun _ => R0) f953 (by decide) rfl, hc954⟩
          · rw [b1287] at hk H
            replace H := bifT H
            refine x_if hk (b := true) rfl ?_
            refine (show Code.wpIn _ _ _ _ _ _ _ from ?_)
            refine wpIn_region_lit ?_
            refine x_run tab hk (k := 2) (lv := []) (ks := [0, 5, 11, 84, 85]) (e' := [(0, .string p0), (5, .int .i64 x955), (11, .int .i64 x1285), (84, .slice A950 (l952).length c951), (85, .int .i64 x1284)]) rfl trivial fun a hk => ?_
            refine x_op hk rfl ?_
            refine op_slice (o := o1283) tab hk (vs := [.int .i64 x1284]) (cs := [.int .i64 x1284]) rfl rfl rfl rfl rfl rfl rfl rfl rfl 128 fun bx1306 w1303 o1304 st1305 f1307 => ?_
            replace f953 := f953.st st1305 (by decide)
            replace hs := hs.loc0 st1305 (by decide)
            have f1308 : Ft (Own (encInt .i64) 3 (.slice (some ⟨bx1306, 0, none⟩) (([x1284] : List Int)).length 1) ([x1284] : List Int)) w1303 o1304 128 := f1307.imp fun _ h_ => Own.of_box h_ rfl (by simp)
            have hk := hk.put 86 (.slice (some ⟨bx1306, 0, none⟩) (([x1284] : List Int)).length 1) rfl
            refine x_op hk rfl ?_
            obtain ⟨q1312, H⟩ := ifS H
            refine op_append (o := o1304) (E := (encInt .i64)) (xs := l952) (ys := ([x1284] : List Int)) tab hk rfl rfl rfl rfl rfl rfl rfl f953 (Own.rd f1308.now) q1312 fun A1313 c1314 w1309 o1310 st1311 f1315 hc1316 => ?_
            replace f1308 := f1308.st st1311 (by decide)
            replace hs := hs.loc0 st1311 (by decide)
            have hk := hk.put 87 (.slice A1313 ((l952 ++ ([x1284] : List Int))).length c1314) rfl
            refine x_run tab hk (k := 1) (lv := []) (ks := [0, 4, 5, 11]) (e' := [(0, .string p0), (4, .slice A1313 ((l952 ++ ([x1284] : List Int))).length c1314), (5, .int .i64 x955), (11, .int .i64 x1285)]) rfl trivial fun a hk => ?_
            refine wpListIn_nil ?_
            refine then_n ?_
            refine wpIn_region_lit ?_
            refine x_run tab hk (k := 4) (lv := []) (ks := [0, 4, 5]) (e' := [(0, .string p0), (4, .slice A1313 ((l952 ++ ([x1284] : List Int))).length c1314), (5, .int .i64 (IntKind.wrap .i64 (x955 + x1285)))]) rfl trivial fun a hk => ?_
            refine wpListIn_nil ?_
            refine blk_n ?_
            refine then_n ?_
            exact ⟨k1184, Nat.le_refl _, (fun b_ => (fun l_ => if l_ = 126 then 94 else l_) (o1310 b_)), A1313, c1314, (l952 ++ ([x1284] : List Int)), (IntKind.wrap .i64 (x955 + x1285)), (by exact Kn.pick (ks := [0, 4, 5]) hk rfl), (hs.relab0 (fun l_ => if l_ = 126 then 94 else l_) rfl), (f1315.relab (fun l_ => if l_ = 126 then 94 else l_) rfl), hc1316, (hlp1186 ▸ H)⟩
        refine wpIn_block ?_
        refine x_loop (fun j_ a_ w_ => ∃ o1339 : Nat → Nat, ∃ x1340 : Int, ∃ x1341 : Int, ∃ x1342 : Int, ∃ x1343 : Int, Kn 103 a_ [(0, .string p0), (4, .slice A950 (l952).length c951), (5, .int .i64 x955), (7, .int .i64 t1193.1), (8, .int .i64 x1340), (9, .int .i64 x1341), (10, .int .i64 x1342), (11, .int .i64 x1343)] ∧ St [] w (fun _ => 0) w_ o1339 ∧ Ft (Own (encInt .i64) 3 (.slice A950 (l952).length c951) l952) w_ o1339 132 ∧ tidewrackref05_Runes_l4 p0 l952 x955 lp1185 t1193 j_ x1340 x1341 x1342 x1343 = some r) (k := K) ⟨(fun b_ => (fun l_ => if l_ = 94 then 132 else l_) (o1200 b_)), t1193.2.1, t1193.2.2, (Int.tmod (IntKind.wrap .i64 (bt p0 x955)) (rdD 0 ([0, 32, 16, 8] : List Int) t1193.1)), 1, (by exact Kn.pick (ks := [0, 4, 5, 7, 8, 9, 10, 11]) hk rfl), (hs.relab0 (fun l_ => if l_ = 94 then 132 else l_) rfl), (f953.relab (fun l_ => if l_ = 94 then 132 else l_) rfl), H⟩ (by rintro _ _ ⟨_, _, _, _, _, _, _, _, H_⟩; exact absurd (show (none : Option ((List Int) × Int)) = some r from H_) (by simp)) ?_
        rintro k1364 a w1363 ⟨o1339, x1340, x1341, x1342, x1343, hk, hs, f953, H⟩
        rw [tidewrackref05_Runes_l4] at H
        obtain ⟨lp1365, hlp1366⟩ : ∃ lp_, lp_ = tidewrackref05_Runes_l4 p0 l952 x955 lp1185 t1193 k1364 := ⟨_, rfl⟩
        rw [← hlp1366] at H
        refine x_mid (fun a_ w_ => ∃ o1372 : Nat → Nat, Kn 103 a_ [(0, .string p0), (4, .slice A950 (l952).length c951), (5, .int .i64 x955), (7, .int .i64 t1193.1), (8, .int .i64 x1340), (9, .int .i64 x1341), (10, .int .i64 x1342), (11, .int .i64 x1343)] ∧ St [] w (fun _ => 0) w_ o1372 ∧ Ft (Own (encInt .i64) 3 (.slice A950 (l952).length c951) l952) w_ o1372 135 ∧ tidewrackref05_Runes_j5 p0 l952 x955 lp1185 t1193 x1340 x1341 x1342 x1343 lp1365 = some r) ?_ ?_
        rotate_left
        · rintro a w1373 ⟨o1372, hk, hs, f953, H⟩
          rw [tidewrackref05_Runes_j5] at H
          refine wpIn_block ?_
          refine x_seq ?_
          refine wpIn_region_lit ?_
          obtain ⟨q1374, H⟩ := ifS H
          refine x_run tab hk (k := 7) (lv := []) (ks := [0, 4, 5, 7, 8, 9, 10, 11, 12]) (e' := [(0, .string p0), (4, .slice A950 (l952).length c951), (5, .int .i64 x955), (7, .int .i64 t1193.1), (8, .int .i64 x1340), (9, .int .i64 x1341), (10, .int .i64 x1342), (11, .int .i64 x1343), (12, .int .i64 (IntKind.wrap .i64 (bt p0 (IntKind.wrap .i64 (x955 + x1343)))))]) rfl ⟨q1374, trivial⟩ fun a hk => ?_
          refine wpListIn_nil ?_
          refine then_n ?_
          refine x_mid (fun a_ w_ => ∃ o1380 : Nat → Nat, Kn 103 a_ [(0, .string p0), (4, .slice A950 (l952).length c951), (5, .int .i64 x955), (7, .int .i64 t1193.1), (10, .int .i64 x1342), (11, .int .i64 x1343), (12, .int .i64 (IntKind.wrap .i64 (bt p0 (IntKind.wrap .i64 (x955 + x1343)))))] ∧ St [] w (fun _ => 0) w_ o1380 ∧ Ft (Own (encInt .i64) 3 (.slice A950 (l952).length c951) l952) w_ o1380 136 ∧ tidewrackref05_Runes_j6 p0 x955 x1342 x1343 lp1365 = some r) ?_ ?_
          rotate_left
          · rintro a w1381 ⟨o1380, hk, hs, f953, H⟩
            rw [tidewrackref05_Runes_j6] at H
            refine x_seq ?_
            refine wpIn_region_lit ?_
            refine x_run tab hk (k := 6) (lv := []) (ks := [0, 4, 5, 7, 10, 11]) (e' := [(0, .string p0), (4, .slice A950 (l952).length c951), (5, .int .i64 x955), (7, .int .i64 t1193.1), (10, .int .i64 (IntKind.wrap .i64 ((IntKind.wrap .i64 (x1342 * 64)) + (Int.tmod (IntKind.wrap .i64 (bt p0 (IntKind.wrap .i64 (x955 + x1343)))) 64)))), (11, .int .i64 x1343)]) rfl ⟨(show (64 : Int) ≠ 0 from by decide), trivial⟩ fun a hk => ?_
            refine wpListIn_nil ?_
            refine then_n ?_
            refine x_seq ?_
            refine wpIn_region_lit ?_
            refine x_run tab hk (k := 1) (lv := []) (ks := [0, 4, 5, 7, 8, 10, 11]) (e' := [(0, .string p0), (4, .slice A950 (l952).length c951), (5, .int .i64 x955), (7, .int .i64 t1193.1), (8, .int .i64 128), (10, .int .i64 (IntKind.wrap .i64 ((IntKind.wrap .i64 (x1342 * 64)) + (Int.tmod (IntKind.wrap .i64 (bt p0 (IntKind.wrap .i64 (x955 + x1343)))) 64)))), (11, .int .i64 x1343)]) rfl trivial fun a hk => ?_
            refine wpListIn_nil ?_
            refine then_n ?_
            refine x_seq ?_
            refine wpIn_region_lit ?_
            refine x_run tab hk (k := 1) (lv := []) (ks := [0, 4, 5, 7, 8, 9, 10, 11]) (e' := [(0, .string p0), (4, .slice A950 (l952).length c951), (5, .int .i64 x955), (7, .int .i64 t1193.1), (8, .int .i64 128), (9, .int .i64 191), (10, .int .i64 (IntKind.wrap .i64 ((IntKind.wrap .i64 (x1342 * 64)) + (Int.tmod (IntKind.wrap .i64 (bt p0 (IntKind.wrap .i64 (x955 + x1343)))) 64)))), (11, .int .i64 x1343)]) rfl trivial fun a hk => ?_
            refine wpListIn_nil ?_
            refine then_n ?_
            refine wpIn_region_lit ?_
            refine x_run tab hk (k := 3) (lv := []) (ks := [0, 4, 5, 7, 8, 9, 10, 11]) (e' := [(0, .string p0), (4, .slice A950 (l952).length c951), (5, .int .i64 x955), (7, .int .i64 t1193.1), (8, .int .i64 128), (9, .int .i64 191), (10, .int .i64 (IntKind.wrap .i64 ((IntKind.wrap .i64 (x1342 * 64)) + (Int.tmod (IntKind.wrap .i64 (bt p0 (IntKind.wrap .i64 (x955 + x1343)))) 64)))), (11, .int .i64 (IntKind.wrap .i64 (x1343 + 1)))]) rfl trivial fun a hk => ?_
            refine wpListIn_nil ?_
            refine blk_n ?_
            refine then_n ?_
            exact ⟨k1364, Nat.le_refl _, (fun b_ => (fun l_ => if l_ = 136 then 132 else l_) (o1380 b_)), 128, 191, (IntKind.wrap .i64 ((IntKind.wrap .i64 (x1342 * 64)) + (Int.tmod (IntKind.wrap .i64 (bt p0 (IntKind.wrap .i64 (x955 + x1343)))) 64))), (IntKind.wrap .i64 (x1343 + 1)), (by exact Kn.pick (ks := [0, 4, 5, 7, 8, 9, 10, 11]) hk rfl), (hs.relab0 (fun l_ => if l_ = 136 then 132 else l_) rfl), (f953.relab (fun l_ => if l_ = 136 then 132 else l_) rfl), (hlp1366 ▸ H)⟩
          refine x_seq ?_
          refine wpIn_region_lit ?_
          refine x_run tab hk (k := 4) (lv := []) (ks := [0, 4, 5, 7, 9, 10, 11, 12, 69]) (e' := [(0, .string p0), (4, .slice A950 (l952).length c951), (5, .int .i64 x955), (7, .int .i64 t1193.1), (9, .int .i64 x1341), (10, .int .i64 x1342), (11, .int .i64 x1343), (12, .int .i64 (IntKind.wrap .i64 (bt p0 (IntKind.wrap .i64 (x955 + x1343))))), (69, .bool (decide ((IntKind.wrap .i64 (bt p0 (IntKind.wrap .i64 (x955 + x1343)))) < x1340)))]) rfl trivial fun a hk => ?_
          cases b1382 : (decide ((IntKind.wrap .i64 (bt p0 (IntKind.wrap .i64 (x955 + x1343)))) < x1340))
          · rw [b1382] at hk H
            replace H := bifF H
            refine x_run tab hk (k := 4) (lv := []) (ks := [0, 4, 5, 7, 10, 11, 12, 73]) (e' := [(0, .string p0), (4, .slice A950 (l952).length c951), (5, .int .i64 x955), (7, .int .i64 t1193.1), (10, .int .i64 x1342), (11, .int .i64 x1343), (12, .int .i64 (IntKind.wrap .i64 (bt p0 (IntKind.wrap .i64 (x955 + x1343))))), (73, .bool (decide ((IntKind.wrap .i64 (bt p0 (IntKind.wrap .i64 (x955 + x1343)))) > x1341)))]) rfl trivial fun a hk => ?_
            refine wpListIn_nil ?_
            refine then_n ?_
            cases b1383 : (decide ((IntKind.wrap .i64 (bt p0 (IntKind.wrap .i64 (x955 + x1343)))) > x1341))
            · rw [b1383] at hk H
              replace H := bifF H
              refine x_if hk (b := false) rfl ?_
              refine (show Code.wpIn _ _ _ _ _ _ _ from ?_)
              refine wpIn_skip ?_
              refine then_n ?_
              exact ⟨(fun b_ => (fun l_ => if l_ = 135 then 136 else l_) (o1372 b_)), (by exact Kn.pick (ks := [0, 4, 5, 7, 10, 11, 12]) hk rfl), (hs.relab0 (fun l_ => if l_ = 135 then 136 else l_) rfl), (f953.relab (fun l_ => if l_ = 135 then 136 else l_) rfl), H⟩
            · rw [b1383] at hk H
              replace H := bifT H
              refine x_if hk (b := true) rfl ?_
              refine (show Code.wpIn _ _ _ _ _ _ _ from ?_)
              refine wpIn_exit ?_
              refine then_x ?_
              refine blk_y rfl ?_
              refine then_x ?_
              refine blk_x ?_
              refine then_n ?_
              exact ⟨(fun b_ => (fun l_ => if l_ = 135 then 126 else l_) (o1372 b_)), x1342, x1343, (by exact Kn.pick (ks := [0, 4, 5, 7, 10, 11]) hk rfl), (hs.relab0 (fun l_ => if l_ = 135 then 126 else l_) rfl), (f953.relab (fun l_ => if l_ = 135 then 126 else l_) rfl), H⟩
          · rw [b1382] at hk H
            replace H := bifT H
            refine x_run tab hk (k := 4) (lv := []) (ks := [0, 4, 5, 7, 10, 11, 12, 73]) (e' := [(0, .string p0), (4, .slice A950 (l952).length c951), (5, .int .i64 x955), (7, .int .i64 t1193.1), (10, .int .i64 x1342), (11, .int .i64 x1343), (12, .int .i64 (IntKind.wrap .i64 (bt p0 (IntKind.wrap .i64 (x955 + x1343))))), (73, .bool true)]) rfl trivial fun a hk => ?_
            refine wpListIn_nil ?_
            refine then_n ?_
            refine x_if hk (b := true) rfl ?_
            refine (show Code.wpIn _ _ _ _ _ _ _ from ?_)
            refine wpIn_exit ?_
            refine then_x ?_
            refine blk_y rfl ?_
            refine then_x ?_
            refine blk_x ?_
            refine then_n ?_
            exact ⟨(fun b_ => (fun l_ => if l_ = 135 then 126 else l_) (o1372 b_)), x1342, x1343, (by exact Kn.pick (ks := [0, 4, 5, 7, 10, 11]) hk rfl), (hs.relab0 (fun l_ => if l_ = 135 then 126 else l_) rfl), (f953.relab (fun l_ => if l_ = 135 then 126 else l_) rfl), H⟩
        refine x_seq ?_
        refine wpIn_region_lit ?_
        refine x_run tab hk (k := 4) (lv := []) (ks := [0, 4, 5, 7, 8, 9, 10, 11, 52]) (e' := [(0, .string p0), (4, .slice A950 (l952).length c951), (5, .int .i64 x955), (7, .int .i64 t1193.1), (8, .int .i64 x1340), (9, .int .i64 x1341), (10, .int .i64 x1342), (11, .int .i64 x1343), (52, .bool (decide (x1343 ≤ t1193.1)))]) rfl trivial fun a hk => ?_
        cases b1384 : (decide (x1343 ≤ t1193.1))
        · rw [b1384] at hk H
          replace H := bifF H
          refine x_run tab hk (k := 7) (lv := []) (ks := [0, 4, 5, 7, 8, 9, 10, 11, 59]) (e' := [(0, .string p0), (4, .slice A950 (l952).length c951), (5, .int .i64 x955), (7, .int .i64 t1193.1), (8, .int .i64 x1340), (9, .int .i64 x1341), (10, .int .i64 x1342), (11, .int .i64 x1343), (59, .bool false)]) rfl trivial fun a hk => ?_
          refine wpListIn_nil ?_
          refine then_n ?_
          refine x_if hk (b := false) rfl ?_
          refine (show Code.wpIn _ _ _ _ _ _ _ from ?_)
          refine wpIn_exit ?_
          refine then_x ?_
          refine then_x ?_
          refine blk_x ?_
          refine then_n ?_
          exact ⟨(fun b_ => (fun l_ => if l_ = 132 then 126 else l_) (o1339 b_)), x1342, x1343, (by exact Kn.pick (ks := [0, 4, 5, 7, 10, 11]) hk rfl), (hs.relab0 (fun l_ => if l_ = 132 then 126 else l_) rfl), (f953.relab (fun l_ => if l_ = 132 then 126 else l_) rfl), H⟩
        · rw [b1384] at hk H
          replace H := bifT H
          refine x_run tab hk (k := 7) (lv := []) (ks := [0, 4, 5, 7, 8, 9, 10, 11, 59]) (e' := [(0, .string p0), (4, .slice A950 (l952).length c951), (5, .int .i64 x955), (7, .int .i64 t1193.1), (8, .int .i64 x1340), (9, .int .i64 x1341), (10, .int .i64 x1342), (11, .int .i64 x1343), (59, .bool (decide ((IntKind.wrap .i64 (x955 + x1343)) < ((p0).size : Int))))]) rfl trivial fun a hk => ?_
          refine wpListIn_nil ?_
          refine then_n ?_
          cases b1385 : (decide ((IntKind.wrap .i64 (x955 + x1343)) < ((p0).size : Int)))
          · rw [b1385] at hk H
            replace H := bifF H
            refine x_if hk (b := false) rfl ?_
            refine (show Code.wpIn _ _ _ _ _ _ _ from ?_)
            refine wpIn_exit ?_
            refine then_x ?_
            refine then_x ?_
            refine blk_x ?_
            refine then_n ?_
            exact ⟨(fun b_ => (fun l_ => if l_ = 132 then 126 else l_) (o1339 b_)), x1342, x1343, (by exact Kn.pick (ks := [0, 4, 5, 7, 10, 11]) hk rfl), (hs.relab0 (fun l_ => if l_ = 132 then 126 else l_) rfl), (f953.relab (fun l_ => if l_ = 132 then 126 else l_) rfl), H⟩
          · rw [b1385] at hk H
            replace H := bifT H
            refine x_if hk (b := true) rfl ?_
            refine (show Code.wpIn _ _ _ _ _ _ _ from ?_)
            refine wpIn_skip ?_
            refine then_n ?_
            exact ⟨(fun b_ => (fun l_ => if l_ = 132 then 135 else l_) (o1339 b_)), (by exact Kn.pick (ks := [0, 4, 5, 7, 8, 9, 10, 11]) hk rfl), (hs.relab0 (fun l_ => if l_ = 132 then 135 else l_) rfl), (f953.relab (fun l_ => if l_ = 132 then 135 else l_) rfl), H⟩
      · rw [b1198] at hk H
        replace H := bifT H
        refine x_if hk (b := true) rfl ?_
        refine (show Code.wpIn _ _ _ _ _ _ _ from ?_)
        refine x_seq ?_
        refine wpIn_region_lit ?_
        refine x_run tab hk (k := 1) (lv := []) (ks := [0, 5, 38]) (e' := [(0, .string p0), (5, .int .i64 x955), (38, .slice A950 (l952).length c951)]) rfl trivial fun a hk => ?_
        refine x_op hk rfl ?_
        refine op_slice (o := o1196) tab hk (vs := [.int .i64 65533]) (cs := [.int .i64 65533]) rfl rfl rfl rfl rfl rfl rfl rfl rfl 137 fun bx1389 w1386 o1387 st1388 f1390 => ?_
        replace f953 := f953.st st1388 (by decide)
        replace hs := hs.loc0 st1388 (by decide)
        have f1391 : Ft (Own (encInt .i64) 3 (.slice (some ⟨bx1389, 0, none⟩) (([65533] : List Int)).length 1) ([65533] : List Int)) w1386 o1387 137 := f1390.imp fun _ h_ => Own.of_box h_ rfl (by simp)
        have hk := hk.put 39 (.slice (some ⟨bx1389, 0, none⟩) (([65533] : List Int)).length 1) rfl
        refine x_op hk rfl ?_
        obtain ⟨q1395, H⟩ := ifS H
        refine op_append (o := o1387) (E := (encInt .i64)) (xs := l952) (ys := ([65533] : List Int)) tab hk rfl rfl rfl rfl rfl rfl rfl f953 (Own.rd f1391.now) q1395 fun A1396 c1397 w1392 o1393 st1394 f1398 hc1399 => ?_
        replace f1391 := f1391.st st1394 (by decide)
        replace hs := hs.loc0 st1394 (by decide)
        have hk := hk.put 40 (.slice A1396 ((l952 ++ ([65533] : List Int))).length c1397) rfl
        refine x_run tab hk (k := 1) (lv := []) (ks := [0, 4, 5]) (e' := [(0, .string p0), (4, .slice A1396 ((l952 ++ ([65533] : List Int))).length c1397), (5, .int .i64 x955)]) rfl trivial fun a hk => ?_
        refine wpListIn_nil ?_
        refine then_n ?_
        refine x_seq ?_
        refine wpIn_region_lit ?_
        refine x_run tab hk (k := 3) (lv := []) (ks := [0, 4, 5]) (e' := [(0, .string p0), (4, .slice A1396 ((l952 ++ ([65533] : List Int))).length c1397), (5, .int .i64 (IntKind.wrap .i64 (x955 + 1)))]) rfl trivial fun a hk => ?_
        refine wpListIn_nil ?_
        refine then_n ?_
        refine wpIn_exit ?_
        refine then_x ?_
        refine blk_x ?_
        refine then_n ?_
        exact ⟨k1184, Nat.le_refl _, o1393, A1396, c1397, (l952 ++ ([65533] : List Int)), (IntKind.wrap .i64 (x955 + 1)), (by exact Kn.pick (ks := [0, 4, 5]) hk rfl), hs, f1398, hc1399, (hlp1186 ▸ H)⟩
    · rw [b1189] at hk H
      replace H := bifT H
      refine x_if hk (b := true) rfl ?_
      refine (show Code.wpIn _ _ _ _ _ _ _ from ?_)
      refine x_seq ?_
      refine wpIn_region_lit ?_
      refine x_run tab hk (k := 2) (lv := []) (ks := [0, 5, 24, 25]) (e' := [(0, .string p0), (5, .int .i64 x955), (24, .slice A950 (l952).length c951), (25, .int .i64 (IntKind.wrap .i64 (bt p0 x955)))]) rfl trivial fun a hk => ?_
      refine x_op hk rfl ?_
      refine op_slice (o := o949) tab hk (vs := [.int .i64 (IntKind.wrap .i64 (bt p0 x955))]) (cs := [.int .i64 (IntKind.wrap .i64 (bt p0 x955))]) rfl rfl rfl rfl rfl rfl rfl rfl rfl 138 fun bx1403 w1400 o1401 st1402 f1404 => ?_
      replace f953 := f953.st st1402 (by decide)
      replace hs := hs.loc0 st1402 (by decide)
      have f1405 : Ft (Own (encInt .i64) 3 (.slice (some ⟨bx1403, 0, none⟩) (([(IntKind.wrap .i64 (bt p0 x955))] : List Int)).length 1) ([(IntKind.wrap .i64 (bt p0 x955))] : List Int)) w1400 o1401 138 := f1404.imp fun _ h_ => Own.of_box h_ rfl (by simp)
      have hk := hk.put 26 (.slice (some ⟨bx1403, 0, none⟩) (([(IntKind.wrap .i64 (bt p0 x955))] : List Int)).length 1) rfl
      refine x_op hk rfl ?_
      obtain ⟨q1409, H⟩ := ifS H
      refine op_append (o := o1401) (E := (encInt .i64)) (xs := l952) (ys := ([(IntKind.wrap .i64 (bt p0 x955))] : List Int)) tab hk rfl rfl rfl rfl rfl rfl rfl f953 (Own.rd f1405.now) q1409 fun A1410 c1411 w1406 o1407 st1408 f1412 hc1413 => ?_
      replace f1405 := f1405.st st1408 (by decide)
      replace hs := hs.loc0 st1408 (by decide)
      have hk := hk.put 27 (.slice A1410 ((l952 ++ ([(IntKind.wrap .i64 (bt p0 x955))] : List Int))).length c1411) rfl
      refine x_run tab hk (k := 1) (lv := []) (ks := [0, 4, 5]) (e' := [(0, .string p0), (4, .slice A1410 ((l952 ++ ([(IntKind.wrap .i64 (bt p0 x955))] : List Int))).length c1411), (5, .int .i64 x955)]) rfl trivial fun a hk => ?_
      refine wpListIn_nil ?_
      refine then_n ?_
      refine x_seq ?_
      refine wpIn_region_lit ?_
      refine x_run tab hk (k := 3) (lv := []) (ks := [0, 4, 5]) (e' := [(0, .string p0), (4, .slice A1410 ((l952 ++ ([(IntKind.wrap .i64 (bt p0 x955))] : List Int))).length c1411), (5, .int .i64 (IntKind.wrap .i64 (x955 + 1)))]) rfl trivial fun a hk => ?_
      refine wpListIn_nil ?_
      refine then_n ?_
      refine wpIn_exit ?_
      refine then_x ?_
      refine blk_x ?_
      refine then_n ?_
      exact ⟨k1184, Nat.le_refl _, o1407, A1410, c1411, (l952 ++ ([(IntKind.wrap .i64 (bt p0 x955))] : List Int)), (IntKind.wrap .i64 (x955 + 1)), (by exact Kn.pick (ks := [0, 4, 5]) hk rfl), hs, f1412, hc1413, (hlp1186 ▸ H)⟩

end Go.Proofs.YthddmlhmejnhlaaDoor
