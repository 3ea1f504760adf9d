/- Walks, printed by an own program: the machine's calls compute the plain functions. -/
import Derived.Test.YtknddjjgidaedaaW0
set_option linter.unusedVariables false
set_option linter.unusedSimpArgs false
namespace Go.Proofs.Ytknddjjgidaedaa
open Go Go.Proofs.XC
/-! tidewrack/net.New -/
theorem net_New_calls (p0 : Int) (w : World) (o : Nat → Nat)   (R0 : Nat) (R1 : Nat) (r : T55) (H : net_New p0 = some r) :
    Calls Try.prog 7 #[.int .i64 p0] w (Ret fun v_ w' => ∃ o' : Nat → Nat, ∃ b0 : Nat, ∃ A0 : Option Addr, ∃ c0 : Nat, v_ = .pointer (some ⟨b0, 0, none⟩) ∧ St [] w o w' o' ∧ Ft (Bx b0 56 [.int .i64 r.most, .int .i64 r.lost, .slice A0 (r.l).length c0]) w' o' R0 ∧ Ft (Own ET28 29 (.slice A0 (r.l).length c0) (r.l)) w' o' R1 ∧ (r.l).length ≤ c0) := by
  refine x_enter (vs := [.int .i64 p0]) Try.func7 rfl rfl rfl fun a hk => ?_
  obtain ⟨o0, hs, h0⟩ := St.start w o
  clear h0
  rw [net_New] at H
  refine x_seq ?_
  refine wpIn_region_lit ?_
  refine x_run tab hk (k := 1) (lv := []) (ks := [0]) (e' := [(0, .int .i64 p0)]) rfl trivial fun a hk => ?_
  refine wpListIn_nil ?_
  refine then_n ?_
  refine x_seq ?_
  refine wpIn_region_lit ?_
  refine x_run tab hk (k := 4) (lv := []) (ks := [6]) (e' := [(6, .agg #[.int .i64 (mxI 1 (mnI p0 4096)), .int .i64 0, .slice none 0 0])]) rfl trivial fun a hk => ?_
  refine x_op hk rfl ?_
  refine op_box (o := o0) (t := 56) (v := .agg #[.int .i64 (mxI 1 (mnI p0 4096)), .int .i64 0, .slice none 0 0]) (cs := [.int .i64 (mxI 1 (mnI p0 4096)), .int .i64 0, .slice none 0 0]) hk rfl rfl 1 fun bx4 w1 o2 st3 f5 => ?_
  replace hs := hs.loc0 st3 (by decide)
  have hk := hk.put 7 (.pointer (some ⟨bx4, 0, none⟩)) rfl
  refine x_run tab hk (k := 1) (lv := []) (ks := [2]) (e' := [(2, .pointer (some ⟨bx4, 0, none⟩))]) rfl trivial fun a hk => ?_
  refine wpListIn_nil ?_
  refine then_n ?_
  refine wpIn_ret ?_
  obtain rfl := Option.some.inj H
  exact x_retG hk (rs := [.tmp 2]) (vs := [.pointer (some ⟨bx4, 0, none⟩)]) rfl ⟨rfl, trivial⟩ ⟨fun b_ => if b_ < w.heap.size then o b_ else (fun _ => R0) (o2 b_), bx4, none, 0, rfl, hs.close0 o (fun _ => R0), hs.close_ft (o := o) (ρ := fun _ => R0) f5 (by decide) rfl, (Ft.of_all (fun _ => Own.nil _ _ _) _ _ _), (by simp)⟩

/-! (*tidewrack/net.Net).put -/
theorem net_Net_put_calls (bp0 : Nat) (Ap0_0 : Option Addr) (cp0_0 : Nat) (p0 : T55) (p1 : T28) (w : World) (o : Nat → Nat) (Lp0 : Nat) (hp0 : Ft (Bx bp0 56 [.int .i64 p0.most, .int .i64 p0.lost, .slice Ap0_0 (p0.l).length cp0_0]) w o Lp0) (Lp0_0 : Nat) (hp0_0 : Ft (Own ET28 29 (.slice Ap0_0 (p0.l).length cp0_0) p0.l) w o Lp0_0) (hcp0_0 : (p0.l).length ≤ cp0_0) (hd0 : ([Lp0, Lp0_0] : List Nat).Nodup) (r : Bool × T55) (H : net_Net_put p0 p1 = some r) :
    Calls Try.prog 22 #[.pointer (some ⟨bp0, 0, none⟩), .agg #[.int .i64 p1.From, .int .i64 p1.To, .string p1.Data]] w (Ret fun v_ w' => ∃ o' : Nat → Nat, ∃ A0 : Option Addr, ∃ c0 : Nat, v_ = .bool r.1 ∧ St [Lp0, Lp0_0] w o w' o' ∧ Ft (Bx bp0 56 [.int .i64 r.2.most, .int .i64 r.2.lost, .slice A0 (r.2.l).length c0]) w' o' Lp0 ∧ Ft (Own ET28 29 (.slice A0 (r.2.l).length c0) (r.2.l)) w' o' Lp0_0 ∧ (r.2.l).length ≤ c0) := by
  refine x_enter (vs := [.pointer (some ⟨bp0, 0, none⟩), .agg #[.int .i64 p1.From, .int .i64 p1.To, .string p1.Data]]) Try.func22 rfl rfl rfl fun a hk => ?_
  obtain ⟨oi, hs0, h0, h1, hob, hoz, hoa⟩ := St.startM2 w o (m := 2) hd0 rfl
  have hs := hs0 [1, 2]
  have hom := lab_in hob (MM := [1, 2]) (by decide)
  have f900000 := h1 1 2 hp0_0 rfl rfl
  have f900019 := h1 0 1 hp0 rfl rfl
  clear h0 h1 hs0
  rw [net_Net_put] at H
  refine x_seq ?_
  refine wpIn_region_lit ?_
  refine x_op hk rfl ?_
  refine op_box (o := oi) (t := 29) (v := .agg #[.int .i64 p1.From, .int .i64 p1.To, .string p1.Data]) (cs := [.int .i64 p1.From, .int .i64 p1.To, .string p1.Data]) hk rfl rfl 3 fun bx4 w1 o2 st3 f5 => ?_
  replace f900000 := f900000.st st3 (by decide)
  replace f900019 := f900019.st st3 (by decide)
  replace hs := hs.locM st3 (by decide) hom
  have hk := hk.put 3 (.pointer (some ⟨bx4, 0, none⟩)) rfl
  refine x_run tab hk (k := 1) (lv := []) (ks := [0, 3]) (e' := [(0, .pointer (some ⟨bp0, 0, none⟩)), (3, .pointer (some ⟨bx4, 0, none⟩))]) rfl trivial fun a hk => ?_
  refine wpListIn_nil ?_
  refine then_n ?_
  refine x_mid (fun a_ w_ => ∃ o18 : Nat → Nat, Kn 36 a_ [(0, .pointer (some ⟨bp0, 0, none⟩)), (3, .pointer (some ⟨bx4, 0, none⟩))] ∧ St [1, 2] w oi w_ o18 ∧ Ft (Bx bx4 29 [.int .i64 p1.From, .int .i64 p1.To, .string p1.Data]) w_ o18 4 ∧ Ft (Own ET28 29 (.slice Ap0_0 (p0.l).length cp0_0) p0.l) w_ o18 2 ∧ Ft (Bx bp0 56 [.int .i64 p0.most, .int .i64 p0.lost, .slice Ap0_0 (p0.l).length cp0_0]) w_ o18 1 ∧ net_Net_put_j1 p0 p1 = some r) ?_ ?_
  rotate_left
  · rintro a w19 ⟨o18, hk, hs, f5, f900000, f900019, H⟩
    rw [net_Net_put_j1] at H
    refine x_seq ?_
    refine x_cut (fun a_ w_ => ∃ o168 : Nat → Nat, ∃ A169 : Option Addr, ∃ c170 : Nat, Kn 36 a_ [] ∧ St [1, 2] w oi w_ o168 ∧ Ft (Own ET28 29 (.slice A169 ((p0.l ++ ([p1] : List T28))).length c170) (p0.l ++ ([p1] : List T28))) w_ o168 2 ∧ Ft (Bx bp0 56 [.int .i64 p0.most, .int .i64 p0.lost, .slice A169 ((p0.l ++ ([p1] : List T28))).length c170]) w_ o168 1 ∧ ((p0.l ++ ([p1] : List T28))).length ≤ c170 ∧ net_Net_put_j2 p0 p1 = some r) ?_ ?_
    rotate_left
    · rintro a w173 ⟨o168, A169, c170, hk, hs, f171, f900019, hc172, H⟩
      rw [net_Net_put_j2] at H
      refine then_n ?_
      refine x_seq ?_
      refine wpIn_region_lit ?_
      refine x_run tab hk (k := 1) (lv := []) (ks := [4]) (e' := [(4, .bool true)]) rfl trivial fun a hk => ?_
      refine wpListIn_nil ?_
      refine then_n ?_
      refine wpIn_ret ?_
      obtain rfl := Option.some.inj H
      exact x_retG hk (rs := [.tmp 4]) (vs := [.bool true]) rfl ⟨rfl, trivial⟩ ⟨fun b_ => if b_ < w.heap.size then o b_ else (fun l_ => if l_ = 1 then Lp0 else if l_ = 2 then Lp0_0 else 0) (o168 b_), A169, c170, rfl, hs.closeM hoz (by decide) (fun l_ => if l_ = 1 then Lp0 else if l_ = 2 then Lp0_0 else 0), hs.closeM_ft (o := o) (ρ := fun l_ => if l_ = 1 then Lp0 else if l_ = 2 then Lp0_0 else 0) f900019 (lab_at hoa (i := 0) rfl) rfl, hs.closeM_ft (o := o) (ρ := fun l_ => if l_ = 1 then Lp0 else if l_ = 2 then Lp0_0 else 0) f171 (lab_at hoa (i := 1) rfl) rfl, hc172⟩
    obtain ⟨q200, H⟩ := ifS H
    refine xd_begin (o := o18) (fun W_ => (Bx bx4 29 [.int .i64 p1.From, .int .i64 p1.To, .string p1.Data]) W_ ∧ True) mixed rfl rfl fun w240 st241 => ?_
    replace f5 := f5.st st241 (by decide)
    replace f900000 := f900000.st st241 (by decide)
    replace f900019 := f900019.st st241 (by decide)
    replace hs := hs.locM st241 (by decide) hom
    refine xd_abs fun G hG => ?_
    have N247 : ∀ (a_ : Act) (w_ : World), (∃ o245 : Nat → Nat, Kn 36 a_ [(26, .pointer (some ⟨bp0, 0, none⟩)), (30, .slice Ap0_0 (p0.l).length cp0_0), (31, .agg #[.int .i64 p1.From, .int .i64 p1.To, .string p1.Data])] ∧ St [1, 2] w oi w_ o245 ∧ Ft (Bx bx4 29 [.int .i64 p1.From, .int .i64 p1.To, .string p1.Data]) w_ o245 19 ∧ Ft (Own ET28 29 (.slice Ap0_0 (p0.l).length cp0_0) p0.l) w_ o245 2 ∧ Ft (Bx bp0 56 [.int .i64 p0.most, .int .i64 p0.lost, .slice Ap0_0 (p0.l).length cp0_0]) w_ o245 1) → G 5 #[true, true, true, true, true, true, false, false, false, false, false] a_ w_ := by
      rintro a w246 ⟨o245, hk, hs, f5, f900000, f900019⟩
      refine xd_of hG ?_
      refine xd_op hk (i := 6) (by kernel_rfl) rfl rfl ?_
      refine op_slice (o := o245) tab hk (vs := [.agg #[.int .i64 p1.From, .int .i64 p1.To, .string p1.Data]]) (cs := [.int .i64 p1.From, .int .i64 p1.To, .string p1.Data]) rfl rfl rfl rfl rfl rfl rfl rfl rfl 20 fun bx251 w248 o249 st250 f252 => ?_
      replace f5 := f5.st st250 (by decide)
      replace f900000 := f900000.st st250 (by decide)
      replace f900019 := f900019.st st250 (by decide)
      replace hs := hs.locM st250 (by decide) hom
      have f253 : Ft (Own ET28 29 (.slice (some ⟨bx251, 0, none⟩) (([p1] : List T28)).length 1) ([p1] : List T28)) w248 o249 20 := f252.imp fun _ h_ => Own.of_box h_ rfl (by simp)
      have hk := hk.put 32 (.slice (some ⟨bx251, 0, none⟩) (([p1] : List T28)).length 1) rfl
      refine ⟨.inr ⟨f5.now, trivial⟩, ?_⟩
      refine xd_op hk (i := 7) (by kernel_rfl) rfl rfl ?_
      refine op_append (o := o249) (E := ET28) (xs := p0.l) (ys := ([p1] : List T28)) tab hk rfl rfl rfl rfl rfl rfl rfl f900000 (Own.rd f253.now) q200 fun A257 c258 w254 o255 st256 f259 hc260 => ?_
      replace f253 := f253.st st256 (by decide)
      replace f5 := f5.st st256 (by decide)
      replace f900019 := f900019.st st256 (by decide)
      replace hs := hs.locM st256 (by decide) hom
      have hk := hk.put 33 (.slice A257 ((p0.l ++ ([p1] : List T28))).length c258) rfl
      refine ⟨.inr ⟨f5.now, trivial⟩, ?_⟩
      refine xd_take tab hk (k := 1) (is := [8, 9]) (ls' := #[true, true, true, true, true, true, true, true, true, true, false]) (lv := []) (ks := [33, 35]) (e' := [(33, .slice A257 ((p0.l ++ ([p1] : List T28))).length c258), (35, .pointer (some ((⟨bp0, 0, none⟩ : Addr).add 2)))]) (by kernel_rfl) rfl rfl (by kernel_rfl) (np_then (np_then np_body)) ⟨f5.now, trivial⟩ (fun W_ hS => trivial) fun a hk => ?_
      refine xd_op hk (i := 10) (by kernel_rfl) rfl rfl ?_
      refine op_store tab hk (t := 54) (v := .slice A257 ((p0.l ++ ([p1] : List T28))).length c258) (b := bp0) (k := 2) (cs' := [.int .i64 p0.most, .int .i64 p0.lost, .slice A257 ((p0.l ++ ([p1] : List T28))).length c258]) rfl rfl rfl rfl rfl rfl f900019 rfl rfl fun w261 o262 st263 f900019_ => ?_
      replace f253 := f253.st st263 (by decide)
      replace f259 := f259.st st263 (by decide)
      replace f5 := f5.st st263 (by decide)
      replace hs := hs.locM st263 (by decide) hom
      replace f900019 := f900019_
      refine ⟨.inr ⟨f5.now, trivial⟩, ?_⟩
      refine xd_done (by kernel_rfl) ?_
      refine then_n ?_
      exact ⟨o262, A257, c258, (by exact Kn.pick (ks := []) hk rfl), hs, f259, f900019, hc260, H⟩
    have N285 : ∀ (a_ : Act) (w_ : World), (∃ o279 : Nat → Nat, ∃ A280 : Option Addr, ∃ c281 : Nat, Kn 36 a_ [(26, .pointer (some ⟨bp0, 0, none⟩)), (29, .pointer (some ((⟨bp0, 0, none⟩ : Addr).add 2))), (32, .slice A280 (([p1] : List T28)).length c281)] ∧ St [1, 2] w oi w_ o279 ∧ Ft (Own ET28 29 (.slice A280 (([p1] : List T28)).length c281) ([p1] : List T28)) w_ o279 23 ∧ Ft (Bx bx4 29 [.int .i64 p1.From, .int .i64 p1.To, .string p1.Data]) w_ o279 22 ∧ Ft (Own ET28 29 (.slice Ap0_0 (p0.l).length cp0_0) p0.l) w_ o279 2 ∧ Ft (Bx bp0 56 [.int .i64 p0.most, .int .i64 p0.lost, .slice Ap0_0 (p0.l).length cp0_0]) w_ o279 1 ∧ (([p1] : List T28)).length ≤ c281) → G 5 #[true, true, true, true, false, true, true, false, false, false, false] a_ w_ := by
      rintro a w284 ⟨o279, A280, c281, hk, hs, f282, f5, f900000, f900019, hc283⟩
      refine xd_of hG ?_
      refine xd_op hk (i := 4) (by kernel_rfl) rfl rfl ?_
      refine op_quiet tab hk (lv := [.slice Ap0_0 (p0.l).length cp0_0]) (v := .slice Ap0_0 (p0.l).length cp0_0) rfl ⟨(load1 tab rfl ((Bx.cell f900019.now 2).trans rfl)), trivial⟩ ?_
      have hk := hk.put 30 (.slice Ap0_0 (p0.l).length cp0_0) rfl
      refine ⟨.inr ⟨f5.now, trivial⟩, ?_⟩
      refine xd_op hk (i := 7) (by kernel_rfl) rfl rfl ?_
      refine op_append (o := o279) (E := ET28) (xs := p0.l) (ys := ([p1] : List T28)) tab hk rfl rfl rfl rfl rfl rfl rfl f900000 (Own.rd f282.now) q200 fun A289 c290 w286 o287 st288 f291 hc292 => ?_
      replace f282 := f282.st st288 (by decide)
      replace f5 := f5.st st288 (by decide)
      replace f900019 := f900019.st st288 (by decide)
      replace hs := hs.locM st288 (by decide) hom
      have hk := hk.put 33 (.slice A289 ((p0.l ++ ([p1] : List T28))).length c290) rfl
      refine ⟨.inr ⟨f5.now, trivial⟩, ?_⟩
      refine xd_take tab hk (k := 1) (is := [8, 9]) (ls' := #[true, true, true, true, true, true, true, true, true, true, false]) (lv := []) (ks := [33, 35]) (e' := [(33, .slice A289 ((p0.l ++ ([p1] : List T28))).length c290), (35, .pointer (some ((⟨bp0, 0, none⟩ : Addr).add 2)))]) (by kernel_rfl) rfl rfl (by kernel_rfl) (np_then (np_then np_body)) ⟨f5.now, trivial⟩ (fun W_ hS => trivial) fun a hk => ?_
      refine xd_op hk (i := 10) (by kernel_rfl) rfl rfl ?_
      refine op_store tab hk (t := 54) (v := .slice A289 ((p0.l ++ ([p1] : List T28))).length c290) (b := bp0) (k := 2) (cs' := [.int .i64 p0.most, .int .i64 p0.lost, .slice A289 ((p0.l ++ ([p1] : List T28))).length c290]) rfl rfl rfl rfl rfl rfl f900019 rfl rfl fun w293 o294 st295 f900019_ => ?_
      replace f282 := f282.st st295 (by decide)
      replace f291 := f291.st st295 (by decide)
      replace f5 := f5.st st295 (by decide)
      replace hs := hs.locM st295 (by decide) hom
      replace f900019 := f900019_
      refine ⟨.inr ⟨f5.now, trivial⟩, ?_⟩
      refine xd_done (by kernel_rfl) ?_
      refine then_n ?_
      exact ⟨o294, A289, c290, (by exact Kn.pick (ks := []) hk rfl), hs, f291, f900019, hc292, H⟩
    refine xd_of hG ?_
    refine xd_take tab hk (k := 6) (is := [0, 1, 2, 3, 5]) (ls' := #[true, true, true, true, false, true, false, false, false, false, false]) (lv := [.agg #[.int .i64 p1.From, .int .i64 p1.To, .string p1.Data]]) (ks := [26, 29, 31]) (e' := [(26, .pointer (some ⟨bp0, 0, none⟩)), (29, .pointer (some ((⟨bp0, 0, none⟩ : Addr).add 2))), (31, .agg #[.int .i64 p1.From, .int .i64 p1.To, .string p1.Data])]) (by kernel_rfl) rfl rfl (by kernel_rfl) (np_then (np_then np_body)) ⟨f5.now, trivial⟩ (fun W_ hS => ⟨(load_box tab rfl rfl hS.1 (k := 0) rfl rfl), trivial⟩) fun a hk => ?_
    refine xd_each [4, 6] (by kernel_rfl) rfl ⟨?_, ?_, trivial⟩
    · refine xd_one hk rfl rfl ?_
      refine op_quiet tab hk (lv := [.slice Ap0_0 (p0.l).length cp0_0]) (v := .slice Ap0_0 (p0.l).length cp0_0) rfl ⟨(load1 tab rfl ((Bx.cell f900019.now 2).trans rfl)), trivial⟩ ?_
      have hk := hk.put 30 (.slice Ap0_0 (p0.l).length cp0_0) rfl
      refine ⟨.inr ⟨f5.now, trivial⟩, ?_⟩
      exact xd_to hG rfl (N247 _ _ ⟨(fun b_ => (fun l_ => if l_ = 4 then 19 else l_) (o18 b_)), (by exact Kn.pick (ks := [26, 30, 31]) hk rfl), (hs.relabM hob (fun l_ => if l_ = 4 then 19 else l_) (by decide)), (f5.relab (fun l_ => if l_ = 4 then 19 else l_) rfl), (f900000.relab (fun l_ => if l_ = 4 then 19 else l_) rfl), (f900019.relab (fun l_ => if l_ = 4 then 19 else l_) rfl)⟩)
    · refine xd_one hk rfl rfl ?_
      refine op_slice (o := o18) tab hk (vs := [.agg #[.int .i64 p1.From, .int .i64 p1.To, .string p1.Data]]) (cs := [.int .i64 p1.From, .int .i64 p1.To, .string p1.Data]) rfl rfl rfl rfl rfl rfl rfl rfl rfl 21 fun bx267 w264 o265 st266 f268 => ?_
      replace f5 := f5.st st266 (by decide)
      replace f900000 := f900000.st st266 (by decide)
      replace f900019 := f900019.st st266 (by decide)
      replace hs := hs.locM st266 (by decide) hom
      have f269 : Ft (Own ET28 29 (.slice (some ⟨bx267, 0, none⟩) (([p1] : List T28)).length 1) ([p1] : List T28)) w264 o265 21 := f268.imp fun _ h_ => Own.of_box h_ rfl (by simp)
      have hk := hk.put 32 (.slice (some ⟨bx267, 0, none⟩) (([p1] : List T28)).length 1) rfl
      refine ⟨.inr ⟨f5.now, trivial⟩, ?_⟩
      exact xd_to hG rfl (N285 _ _ ⟨(fun b_ => (fun l_ => if l_ = 4 then 22 else if l_ = 21 then 23 else l_) (o265 b_)), (some ⟨bx267, 0, none⟩), 1, (by exact Kn.pick (ks := [26, 29, 32]) hk rfl), (hs.relabM hob (fun l_ => if l_ = 4 then 22 else if l_ = 21 then 23 else l_) (by decide)), (f269.relab (fun l_ => if l_ = 4 then 22 else if l_ = 21 then 23 else l_) rfl), (f5.relab (fun l_ => if l_ = 4 then 22 else if l_ = 21 then 23 else l_) rfl), (f900000.relab (fun l_ => if l_ = 4 then 22 else if l_ = 21 then 23 else l_) rfl), (f900019.relab (fun l_ => if l_ = 4 then 22 else if l_ = 21 then 23 else l_) rfl), (Nat.le_refl _)⟩)
  refine x_seq ?_
  refine xd_begin (o := o2) (fun W_ => (Bx bx4 29 [.int .i64 p1.From, .int .i64 p1.To, .string p1.Data]) W_ ∧ (Bx bp0 56 [.int .i64 p0.most, .int .i64 p0.lost, .slice Ap0_0 (p0.l).length cp0_0]) W_ ∧ True) mixed rfl rfl fun w300 st301 => ?_
  replace f5 := f5.st st301 (by decide)
  replace f900000 := f900000.st st301 (by decide)
  replace f900019 := f900019.st st301 (by decide)
  replace hs := hs.locM st301 (by decide) hom
  refine xd_take tab hk (k := 17) (is := [0, 1, 2, 3]) (ls' := #[true, true, true, true, false, false, false, false, false, false, false, false, false, false, false, false, false, false, false, false, false]) (lv := [.string p1.Data]) (ks := [0, 3, 8]) (e' := [(0, .pointer (some ⟨bp0, 0, none⟩)), (3, .pointer (some ⟨bx4, 0, none⟩)), (8, .bool (ByteArray.toList p1.Data == ByteArray.toList (⟨#[]⟩ : ByteArray)))]) (by kernel_rfl) rfl rfl (by kernel_rfl) (np_then (np_then np_body)) ⟨f5.now, f900019.now, trivial⟩ (fun W_ hS => ⟨(load1 tab rfl ((Bx.cell hS.1 2).trans rfl)), trivial⟩) fun a hk => ?_
  cases b302 : (ByteArray.toList p1.Data == ByteArray.toList (⟨#[]⟩ : ByteArray))
  · rw [b302] at hk H
    replace H := bifF H
    refine xd_take tab hk (k := 11) (is := [4, 5, 6, 7, 8, 9]) (ls' := #[true, true, true, true, true, true, true, true, true, true, false, false, false, false, false, false, false, false, false, false, false]) (lv := [.string p1.Data]) (ks := [0, 3, 14]) (e' := [(0, .pointer (some ⟨bp0, 0, none⟩)), (3, .pointer (some ⟨bx4, 0, none⟩)), (14, .bool (decide (((p1.Data).size : Int) > (8192 : Int))))]) (by kernel_rfl) rfl rfl (by kernel_rfl) (np_then (np_then np_body)) ⟨f5.now, f900019.now, trivial⟩ (fun W_ hS => ⟨(load1 tab rfl ((Bx.cell hS.1 2).trans rfl)), trivial⟩) fun a hk => ?_
    cases b303 : (decide (((p1.Data).size : Int) > (8192 : Int)))
    · rw [b303] at hk H
      replace H := bifF H
      refine xd_take tab hk (k := 0) (is := [10, 11, 12, 13, 14, 15, 16, 17, 18, 19, 20]) (ls' := #[true, true, true, true, true, true, true, true, true, true, true, true, true, true, true, true, true, true, true, true, true]) (lv := [.slice Ap0_0 (p0.l).length cp0_0, .int .i64 p0.most]) (ks := [0, 3, 25]) (e' := [(0, .pointer (some ⟨bp0, 0, none⟩)), (3, .pointer (some ⟨bx4, 0, none⟩)), (25, .bool (decide (((p0.l).length : Int) ≥ p0.most)))]) (by kernel_rfl) rfl rfl (by kernel_rfl) (np_then (np_then np_body)) ⟨f5.now, f900019.now, trivial⟩ (fun W_ hS => ⟨(load1 tab rfl ((Bx.cell hS.2.1 2).trans rfl)), (load1 tab rfl ((Bx.cell hS.2.1 0).trans rfl)), trivial⟩) fun a hk => ?_
      refine xd_done (by kernel_rfl) ?_
      refine then_n ?_
      cases b304 : (decide (((p0.l).length : Int) ≥ p0.most))
      · rw [b304] at hk H
        replace H := bifF H
        refine x_if hk (b := false) rfl ?_
        refine (show Code.wpIn _ _ _ _ _ _ _ from ?_)
        refine wpIn_skip ?_
        refine then_n ?_
        exact ⟨(fun b_ => (fun l_ => if l_ = 3 then 4 else l_) (o2 b_)), (by exact Kn.pick (ks := [0, 3]) hk rfl), (hs.relabM hob (fun l_ => if l_ = 3 then 4 else l_) (by decide)), (f5.relab (fun l_ => if l_ = 3 then 4 else l_) rfl), (f900000.relab (fun l_ => if l_ = 3 then 4 else l_) rfl), (f900019.relab (fun l_ => if l_ = 3 then 4 else l_) rfl), H⟩
      · rw [b304] at hk H
        replace H := bifT H
        refine x_if hk (b := true) rfl ?_
        refine (show Code.wpIn _ _ _ _ _ _ _ from ?_)
        refine x_seq ?_
        refine wpIn_region_lit ?_
        refine x_run tab hk (k := 1) (lv := []) (ks := [4]) (e' := [(4, .bool false)]) rfl trivial fun a hk => ?_
        refine wpListIn_nil ?_
        refine then_n ?_
        refine wpIn_ret ?_
        refine then_r ?_
        obtain rfl := Option.some.inj H
        exact x_retG hk (rs := [.tmp 4]) (vs := [.bool false]) rfl ⟨rfl, trivial⟩ ⟨fun b_ => if b_ < w.heap.size then o b_ else (fun l_ => if l_ = 1 then Lp0 else if l_ = 2 then Lp0_0 else 0) (o2 b_), Ap0_0, cp0_0, rfl, hs.closeM hoz (by decide) (fun l_ => if l_ = 1 then Lp0 else if l_ = 2 then Lp0_0 else 0), hs.closeM_ft (o := o) (ρ := fun l_ => if l_ = 1 then Lp0 else if l_ = 2 then Lp0_0 else 0) f900019 (lab_at hoa (i := 0) rfl) rfl, hs.closeM_ft (o := o) (ρ := fun l_ => if l_ = 1 then Lp0 else if l_ = 2 then Lp0_0 else 0) f900000 (lab_at hoa (i := 1) rfl) rfl, hcp0_0⟩
    · rw [b303] at hk H
      replace H := bifT H
      refine xd_take tab hk (k := 0) (is := [10, 11, 12, 13, 14, 15, 16, 17, 18, 19, 20]) (ls' := #[true, true, true, true, true, true, true, true, true, true, true, true, true, true, true, true, true, true, true, true, true]) (lv := []) (ks := [0, 3, 25]) (e' := [(0, .pointer (some ⟨bp0, 0, none⟩)), (3, .pointer (some ⟨bx4, 0, none⟩)), (25, .bool true)]) (by kernel_rfl) rfl rfl (by kernel_rfl) (np_then (np_then np_body)) ⟨f5.now, f900019.now, trivial⟩ (fun W_ hS => trivial) fun a hk => ?_
      refine xd_done (by kernel_rfl) ?_
      refine then_n ?_
      refine x_if hk (b := true) rfl ?_
      refine (show Code.wpIn _ _ _ _ _ _ _ from ?_)
      refine x_seq ?_
      refine wpIn_region_lit ?_
      refine x_run tab hk (k := 1) (lv := []) (ks := [4]) (e' := [(4, .bool false)]) rfl trivial fun a hk => ?_
      refine wpListIn_nil ?_
      refine then_n ?_
      refine wpIn_ret ?_
      refine then_r ?_
      obtain rfl := Option.some.inj H
      exact x_retG hk (rs := [.tmp 4]) (vs := [.bool false]) rfl ⟨rfl, trivial⟩ ⟨fun b_ => if b_ < w.heap.size then o b_ else (fun l_ => if l_ = 1 then Lp0 else if l_ = 2 then Lp0_0 else 0) (o2 b_), Ap0_0, cp0_0, rfl, hs.closeM hoz (by decide) (fun l_ => if l_ = 1 then Lp0 else if l_ = 2 then Lp0_0 else 0), hs.closeM_ft (o := o) (ρ := fun l_ => if l_ = 1 then Lp0 else if l_ = 2 then Lp0_0 else 0) f900019 (lab_at hoa (i := 0) rfl) rfl, hs.closeM_ft (o := o) (ρ := fun l_ => if l_ = 1 then Lp0 else if l_ = 2 then Lp0_0 else 0) f900000 (lab_at hoa (i := 1) rfl) rfl, hcp0_0⟩
  · rw [b302] at hk H
    replace H := bifT H
    refine xd_take tab hk (k := 0) (is := [4, 5, 6, 7, 8, 9, 10, 11, 12, 13, 14, 15, 16, 17, 18, 19, 20]) (ls' := #[true, true, true, true, true, true, true, true, true, true, true, true, true, true, true, true, true, true, true, true, true]) (lv := []) (ks := [0, 3, 25]) (e' := [(0, .pointer (some ⟨bp0, 0, none⟩)), (3, .pointer (some ⟨bx4, 0, none⟩)), (25, .bool true)]) (by kernel_rfl) rfl rfl (by kernel_rfl) (np_then (np_then np_body)) ⟨f5.now, f900019.now, trivial⟩ (fun W_ hS => trivial) fun a hk => ?_
    refine xd_done (by kernel_rfl) ?_
    refine then_n ?_
    refine x_if hk (b := true) rfl ?_
    refine (show Code.wpIn _ _ _ _ _ _ _ from ?_)
    refine x_seq ?_
    refine wpIn_region_lit ?_
    refine x_run tab hk (k := 1) (lv := []) (ks := [4]) (e' := [(4, .bool false)]) rfl trivial fun a hk => ?_
    refine wpListIn_nil ?_
    refine then_n ?_
    refine wpIn_ret ?_
    refine then_r ?_
    obtain rfl := Option.some.inj H
    exact x_retG hk (rs := [.tmp 4]) (vs := [.bool false]) rfl ⟨rfl, trivial⟩ ⟨fun b_ => if b_ < w.heap.size then o b_ else (fun l_ => if l_ = 1 then Lp0 else if l_ = 2 then Lp0_0 else 0) (o2 b_), Ap0_0, cp0_0, rfl, hs.closeM hoz (by decide) (fun l_ => if l_ = 1 then Lp0 else if l_ = 2 then Lp0_0 else 0), hs.closeM_ft (o := o) (ρ := fun l_ => if l_ = 1 then Lp0 else if l_ = 2 then Lp0_0 else 0) f900019 (lab_at hoa (i := 0) rfl) rfl, hs.closeM_ft (o := o) (ρ := fun l_ => if l_ = 1 then Lp0 else if l_ = 2 then Lp0_0 else 0) f900000 (lab_at hoa (i := 1) rfl) rfl, hcp0_0⟩

/-! (*tidewrack/net.Net).Send -/
theorem net_Net_Send_calls (K : Nat) (bp0 : Nat) (Ap0_0 : Option Addr) (cp0_0 : Nat) (p0 : T55) (Ap1 : Option Addr) (cp1 : Nat) (p1 : List T28) (w : World) (o : Nat → Nat) (Lp0 : Nat) (hp0 : Ft (Bx bp0 56 [.int .i64 p0.most, .int .i64 p0.lost, .slice Ap0_0 (p0.l).length cp0_0]) w o Lp0) (Lp0_0 : Nat) (hp0_0 : Ft (Own ET28 29 (.slice Ap0_0 (p0.l).length cp0_0) p0.l) w o Lp0_0) (hcp0_0 : (p0.l).length ≤ cp0_0) (Lp1 : Nat) (hp1 : Ft (RdC ET28 Ap1 p1) w o Lp1) (hcp1 : (p1).length ≤ cp1) (hd0 : ([Lp0, Lp0_0] : List Nat).Nodup) (hd1 : Lp1 ∉ [Lp0, Lp0_0]) (r : Int × T55) (H : net_Net_Send K p0 p1 = some r) :
    Calls Try.prog 9 #[.pointer (some ⟨bp0, 0, none⟩), .slice Ap1 (p1).length cp1] w (Ret fun v_ w' => ∃ o' : Nat → Nat, ∃ A0 : Option Addr, ∃ c0 : Nat, v_ = .int .i64 r.1 ∧ St [Lp0, Lp0_0] w o w' o' ∧ Ft (Bx bp0 56 [.int .i64 r.2.most, .int .i64 r.2.lost, .slice A0 (r.2.l).length c0]) w' o' Lp0 ∧ Ft (Own ET28 29 (.slice A0 (r.2.l).length c0) (r.2.l)) w' o' Lp0_0 ∧ (r.2.l).length ≤ c0) := by
  refine x_enter (vs := [.pointer (some ⟨bp0, 0, none⟩), .slice Ap1 (p1).length cp1]) Try.func9 rfl rfl rfl fun a hk => ?_
  obtain ⟨oi, hs0, h0, h1, hob, hoz, hoa⟩ := St.startM2 w o (m := 2) hd0 rfl
  have hs := hs0 [1, 2]
  have hom := lab_in hob (MM := [1, 2]) (by decide)
  have f900000 := h1 1 2 hp0_0 rfl rfl
  have f900019 := h1 0 1 hp0 rfl rfl
  have f900020 := h0 _ _ hd1 hp1
  clear h0 h1 hs0
  rw [net_Net_Send] at H
  refine x_seq ?_
  refine wpIn_region_lit ?_
  refine x_run tab hk (k := 1) (lv := []) (ks := [0, 1]) (e' := [(0, .pointer (some ⟨bp0, 0, none⟩)), (1, .slice Ap1 (p1).length cp1)]) rfl trivial fun a hk => ?_
  refine wpListIn_nil ?_
  refine then_n ?_
  refine x_seq ?_
  refine wpIn_region_lit ?_
  refine x_run tab hk (k := 1) (lv := []) (ks := [0, 1, 5]) (e' := [(0, .pointer (some ⟨bp0, 0, none⟩)), (1, .slice Ap1 (p1).length cp1), (5, .int .i64 0)]) rfl trivial fun a hk => ?_
  refine wpListIn_nil ?_
  refine then_n ?_
  refine x_mid (fun a_ w_ => ∃ o106 : Nat → Nat, ∃ x107 : Int, ∃ x108 : Int, ∃ A109 : Option Addr, ∃ c110 : Nat, ∃ l111 : List T28, ∃ x114 : Int, Kn 32 a_ [(0, .pointer (some ⟨bp0, 0, none⟩)), (1, .slice Ap1 (p1).length cp1), (5, .int .i64 x114)] ∧ St [1, 2] w oi w_ o106 ∧ Ft (Own ET28 29 (.slice A109 (l111).length c110) l111) w_ o106 2 ∧ Ft (Bx bp0 56 [.int .i64 x107, .int .i64 x108, .slice A109 (l111).length c110]) w_ o106 1 ∧ Ft (RdC ET28 Ap1 p1) w_ o106 0 ∧ (l111).length ≤ c110 ∧ net_Net_Send_j1 p1 x107 x108 l111 x114 = some r) ?_ ?_
  rotate_left
  · rintro a w115 ⟨o106, x107, x108, A109, c110, l111, x114, hk, hs, f112, f900019, f900020, hc113, H⟩
    rw [net_Net_Send_j1] at H
    refine x_seq ?_
    refine wpIn_region_lit ?_
    refine x_run tab hk (k := 10) (lv := [.int .i64 x108]) (ks := [5, 28, 29]) (e' := [(5, .int .i64 x114), (28, .int .i64 (IntKind.wrap .i64 (x108 + (IntKind.wrap .i64 (((p1).length : Int) - x114))))), (29, .pointer (some ⟨bp0, 0, none⟩))]) rfl ⟨(load1 tab rfl ((Bx.cell f900019.now 1).trans rfl)), trivial⟩ fun a hk => ?_
    refine x_run tab hk (k := 1) (lv := []) (ks := [5, 28, 30]) (e' := [(5, .int .i64 x114), (28, .int .i64 (IntKind.wrap .i64 (x108 + (IntKind.wrap .i64 (((p1).length : Int) - x114))))), (30, .pointer (some ((⟨bp0, 0, none⟩ : Addr).add 1)))]) rfl trivial fun a hk => ?_
    refine x_op hk rfl ?_
    refine op_store tab hk (t := 3) (v := .int .i64 (IntKind.wrap .i64 (x108 + (IntKind.wrap .i64 (((p1).length : Int) - x114))))) (b := bp0) (k := 1) (cs' := [.int .i64 x107, .int .i64 (IntKind.wrap .i64 (x108 + (IntKind.wrap .i64 (((p1).length : Int) - x114)))), .slice A109 (l111).length c110]) rfl rfl rfl rfl rfl rfl f900019 rfl rfl fun w116 o117 st118 f900019_ => ?_
    replace f112 := f112.st st118 (by decide)
    replace hs := hs.locM st118 (by decide) hom
    replace f900019 := f900019_
    refine wpListIn_nil ?_
    refine then_n ?_
    refine x_seq ?_
    refine wpIn_region_lit ?_
    refine x_run tab hk (k := 2) (lv := []) (ks := [4]) (e' := [(4, .int .i64 x114)]) rfl trivial fun a hk => ?_
    refine wpListIn_nil ?_
    refine then_n ?_
    refine wpIn_ret ?_
    obtain rfl := Option.some.inj H
    exact x_retG hk (rs := [.tmp 4]) (vs := [.int .i64 x114]) rfl ⟨rfl, trivial⟩ ⟨fun b_ => if b_ < w.heap.size then o b_ else (fun l_ => if l_ = 1 then Lp0 else if l_ = 2 then Lp0_0 else 0) (o117 b_), A109, c110, rfl, hs.closeM hoz (by decide) (fun l_ => if l_ = 1 then Lp0 else if l_ = 2 then Lp0_0 else 0), hs.closeM_ft (o := o) (ρ := fun l_ => if l_ = 1 then Lp0 else if l_ = 2 then Lp0_0 else 0) f900019 (lab_at hoa (i := 0) rfl) rfl, hs.closeM_ft (o := o) (ρ := fun l_ => if l_ = 1 then Lp0 else if l_ = 2 then Lp0_0 else 0) f112 (lab_at hoa (i := 1) rfl) rfl, hc113⟩
  refine x_seq ?_
  refine wpIn_region_lit ?_
  refine x_run tab hk (k := 3) (lv := []) (ks := [0, 1, 5, 8, 9, 10]) (e' := [(0, .pointer (some ⟨bp0, 0, none⟩)), (1, .slice Ap1 (p1).length cp1), (5, .int .i64 0), (8, .slice Ap1 (p1).length cp1), (9, .int .i64 ((p1).length : Int)), (10, .int .i64 0)]) rfl trivial fun a hk => ?_
  refine wpListIn_nil ?_
  refine then_n ?_
  refine wpIn_block ?_
  refine x_loop (fun j_ a_ w_ => ∃ o147 : Nat → Nat, ∃ x148 : Int, ∃ x149 : Int, ∃ A150 : Option Addr, ∃ c151 : Nat, ∃ l152 : List T28, ∃ x155 : Int, ∃ x156 : Int, Kn 32 a_ [(0, .pointer (some ⟨bp0, 0, none⟩)), (1, .slice Ap1 (p1).length cp1), (5, .int .i64 x155), (8, .slice Ap1 (p1).length cp1), (9, .int .i64 ((p1).length : Int)), (10, .int .i64 x156)] ∧ St [1, 2] w oi w_ o147 ∧ Ft (Own ET28 29 (.slice A150 (l152).length c151) l152) w_ o147 2 ∧ Ft (Bx bp0 56 [.int .i64 x148, .int .i64 x149, .slice A150 (l152).length c151]) w_ o147 1 ∧ Ft (RdC ET28 Ap1 p1) w_ o147 0 ∧ (l152).length ≤ c151 ∧ net_Net_Send_l2 p1 j_ x148 x149 l152 x155 x156 = some r) (k := K) ⟨oi, p0.most, p0.lost, Ap0_0, cp0_0, p0.l, 0, 0, (by exact Kn.pick (ks := [0, 1, 5, 8, 9, 10]) hk rfl), hs, f900000, f900019, f900020, hcp0_0, H⟩ (by rintro _ _ ⟨_, _, _, _, _, _, _, _, _, _, _, _, _, _, H_⟩; exact absurd (show (none : Option (Int × T55)) = some r from H_) (by simp)) ?_
  rintro k183 a w182 ⟨o147, x148, x149, A150, c151, l152, x155, x156, hk, hs, f153, f900019, f900020, hc154, H⟩
  rw [net_Net_Send_l2] at H
  obtain ⟨lp184, hlp185⟩ : ∃ lp_, lp_ = net_Net_Send_l2 p1 k183 := ⟨_, rfl⟩
  rw [← hlp185] at H
  refine x_seq ?_
  refine wpIn_region_lit ?_
  refine x_run tab hk (k := 1) (lv := []) (ks := [0, 1, 5, 8, 9, 10, 11]) (e' := [(0, .pointer (some ⟨bp0, 0, none⟩)), (1, .slice Ap1 (p1).length cp1), (5, .int .i64 x155), (8, .slice Ap1 (p1).length cp1), (9, .int .i64 ((p1).length : Int)), (10, .int .i64 x156), (11, .bool (decide (x156 < ((p1).length : Int))))]) rfl trivial fun a hk => ?_
  refine wpListIn_nil ?_
  refine then_n ?_
  refine x_seq ?_
  cases b186 : (decide (x156 < ((p1).length : Int)))
  · rw [b186] at hk H
    replace H := bifF H
    refine x_if hk (b := false) rfl ?_
    refine (show Code.wpIn _ _ _ _ _ _ _ from ?_)
    refine wpIn_exit ?_
    refine then_x ?_
    refine then_x ?_
    refine blk_x ?_
    refine then_n ?_
    exact ⟨o147, x148, x149, A150, c151, l152, x155, (by exact Kn.pick (ks := [0, 1, 5]) hk rfl), hs, f153, f900019, f900020, hc154, H⟩
  · rw [b186] at hk H
    replace H := bifT H
    refine x_if hk (b := true) rfl ?_
    refine (show Code.wpIn _ _ _ _ _ _ _ from ?_)
    refine wpIn_skip ?_
    refine then_n ?_
    refine x_seq ?_
    refine wpIn_block ?_
    refine x_seq ?_
    refine wpIn_region_lit ?_
    obtain ⟨q187, H⟩ := ifS H
    obtain ⟨ad188, hAad188⟩ := RdC.addr f900020.now q187
    have hk_C := hk
    have f153_C := f153
    have f900019_C := f900019
    have f900020_C := f900020
    subst hAad188
    have hk := hk_C
    clear hk_C
    have f153 := f153_C
    clear f153_C
    have f900019 := f900019_C
    clear f900019_C
    have f900020 := f900020_C
    clear f900020_C
    refine x_run tab hk (k := 2) (lv := [.agg #[.int .i64 ((rdD zT28 p1 x156).From), .int .i64 ((rdD zT28 p1 x156).To), .string ((rdD zT28 p1 x156).Data)]]) (ks := [0, 1, 5, 8, 9, 10, 13]) (e' := [(0, .pointer (some ⟨bp0, 0, none⟩)), (1, .slice (some ad188) (p1).length cp1), (5, .int .i64 x155), (8, .slice (some ad188) (p1).length cp1), (9, .int .i64 ((p1).length : Int)), (10, .int .i64 x156), (13, .agg #[.int .i64 ((rdD zT28 p1 x156).From), .int .i64 ((rdD zT28 p1 x156).To), .string ((rdD zT28 p1 x156).Data)])]) rfl ⟨q187, (load_elem (E := ET28) (i := x156) (dx := zT28) tab rfl rfl f900020.now q187), trivial⟩ fun a hk => ?_
    refine x_op hk rfl ?_
    refine op_alloc (o := o147) tab (t := 29) (cs := [.int .i64 0, .int .i64 0, .string (⟨#[]⟩ : ByteArray)]) rfl rfl 8 fun bx192 w189 o190 st191 f193 => ?_
    replace f153 := f153.st st191 (by decide)
    replace f900019 := f900019.st st191 (by decide)
    replace f900020 := f900020.st st191 (by decide)
    replace hs := hs.locM st191 (by decide) hom
    have hk := hk.put 7 (.pointer (some ⟨bx192, 0, none⟩)) rfl
    refine x_op hk rfl ?_
    refine op_store tab hk (t := 29) (v := .agg #[.int .i64 ((rdD zT28 p1 x156).From), .int .i64 ((rdD zT28 p1 x156).To), .string ((rdD zT28 p1 x156).Data)]) (b := bx192) (k := 0) (cs' := [.int .i64 ((rdD zT28 p1 x156).From), .int .i64 ((rdD zT28 p1 x156).To), .string ((rdD zT28 p1 x156).Data)]) rfl rfl rfl rfl rfl rfl f193 rfl rfl fun w194 o195 st196 f193_ => ?_
    replace f153 := f153.st st196 (by decide)
    replace f900019 := f900019.st st196 (by decide)
    replace f900020 := f900020.st st196 (by decide)
    replace hs := hs.locM st196 (by decide) hom
    replace f193 := f193_
    refine wpListIn_nil ?_
    refine then_n ?_
    refine x_seq ?_
    refine wpIn_region_lit ?_
    refine x_run tab hk (k := 2) (lv := [.agg #[.int .i64 ((rdD zT28 p1 x156).From), .int .i64 ((rdD zT28 p1 x156).To), .string ((rdD zT28 p1 x156).Data)]]) (ks := [0, 1, 5, 8, 9, 10, 14, 15]) (e' := [(0, .pointer (some ⟨bp0, 0, none⟩)), (1, .slice (some ad188) (p1).length cp1), (5, .int .i64 x155), (8, .slice (some ad188) (p1).length cp1), (9, .int .i64 ((p1).length : Int)), (10, .int .i64 x156), (14, .pointer (some ⟨bp0, 0, none⟩)), (15, .agg #[.int .i64 ((rdD zT28 p1 x156).From), .int .i64 ((rdD zT28 p1 x156).To), .string ((rdD zT28 p1 x156).Data)])]) rfl ⟨(load_box tab rfl rfl f193.now (k := 0) rfl rfl), trivial⟩ fun a hk => ?_
    refine x_op hk rfl ?_
    obtain ⟨t200, hc201, H⟩ := bindS H
    refine op_call hk ent_22 (vs := [.pointer (some ⟨bp0, 0, none⟩), .agg #[.int .i64 ((rdD zT28 p1 x156).From), .int .i64 ((rdD zT28 p1 x156).To), .string ((rdD zT28 p1 x156).Data)]]) rfl (net_Net_put_calls bp0 A150 c151 (⟨x148, x149, l152⟩ : T55) (rdD zT28 p1 x156) _ o195 1 f900019 2 f153 hc154 (by decide)   _ hc201) ?_
    rintro _ w202 ⟨o203, A206, c207, rfl, st204, f205, f208, hc209⟩
    replace f900020 := f900020.st st204 (by decide)
    replace hs := hs.locM st204 (by decide) hom
    have hk := hk.put 16 (.bool t200.1) rfl
    refine wpListIn_nil ?_
    refine then_n ?_
    cases b210 : t200.1
    · rw [b210] at hk H
      replace H := bifF H
      refine x_if hk (b := false) rfl ?_
      refine (show Code.wpIn _ _ _ _ _ _ _ from ?_)
      refine wpIn_skip ?_
      refine blk_n ?_
      refine then_n ?_
      refine wpIn_region_lit ?_
      refine x_run tab hk (k := 2) (lv := []) (ks := [0, 1, 5, 8, 9, 10]) (e' := [(0, .pointer (some ⟨bp0, 0, none⟩)), (1, .slice (some ad188) (p1).length cp1), (5, .int .i64 x155), (8, .slice (some ad188) (p1).length cp1), (9, .int .i64 ((p1).length : Int)), (10, .int .i64 (IntKind.wrap .i64 (x156 + 1)))]) rfl trivial fun a hk => ?_
      refine wpListIn_nil ?_
      refine then_n ?_
      exact ⟨k183, Nat.le_refl _, o203, t200.2.most, t200.2.lost, A206, c207, t200.2.l, x155, (IntKind.wrap .i64 (x156 + 1)), (by exact Kn.pick (ks := [0, 1, 5, 8, 9, 10]) hk rfl), hs, f208, f205, f900020, hc209, (hlp185 ▸ H)⟩
    · rw [b210] at hk H
      replace H := bifT H
      refine x_if hk (b := true) rfl ?_
      refine (show Code.wpIn _ _ _ _ _ _ _ from ?_)
      refine wpIn_region_lit ?_
      refine x_run tab hk (k := 3) (lv := []) (ks := [0, 1, 5, 8, 9, 10]) (e' := [(0, .pointer (some ⟨bp0, 0, none⟩)), (1, .slice (some ad188) (p1).length cp1), (5, .int .i64 (IntKind.wrap .i64 (x155 + 1))), (8, .slice (some ad188) (p1).length cp1), (9, .int .i64 ((p1).length : Int)), (10, .int .i64 x156)]) rfl trivial fun a hk => ?_
      refine wpListIn_nil ?_
      refine blk_n ?_
      refine then_n ?_
      refine wpIn_region_lit ?_
      refine x_run tab hk (k := 2) (lv := []) (ks := [0, 1, 5, 8, 9, 10]) (e' := [(0, .pointer (some ⟨bp0, 0, none⟩)), (1, .slice (some ad188) (p1).length cp1), (5, .int .i64 (IntKind.wrap .i64 (x155 + 1))), (8, .slice (some ad188) (p1).length cp1), (9, .int .i64 ((p1).length : Int)), (10, .int .i64 (IntKind.wrap .i64 (x156 + 1)))]) rfl trivial fun a hk => ?_
      refine wpListIn_nil ?_
      refine then_n ?_
      exact ⟨k183, Nat.le_refl _, o203, t200.2.most, t200.2.lost, A206, c207, t200.2.l, (IntKind.wrap .i64 (x155 + 1)), (IntKind.wrap .i64 (x156 + 1)), (by exact Kn.pick (ks := [0, 1, 5, 8, 9, 10]) hk rfl), hs, f208, f205, f900020, hc209, (hlp185 ▸ H)⟩

/-! (*tidewrack/net.Net).is -/
theorem net_Net_is_calls (bp0 : Nat) (Ap0_0 : Option Addr) (cp0_0 : Nat) (p0 : T55) (p1 : Int) (w : World) (o : Nat → Nat) (Lp0 : Nat) (hp0 : Ft (Bx bp0 56 [.int .i64 p0.most, .int .i64 p0.lost, .slice Ap0_0 (p0.l).length cp0_0]) w o Lp0) (Lp0_0 : Nat) (hp0_0 : Ft (RdC ET28 Ap0_0 p0.l) w o Lp0_0) (hcp0_0 : (p0.l).length ≤ cp0_0)  (r : Bool) (H : net_Net_is p0 p1 = some r) :
    Calls Try.prog 23 #[.pointer (some ⟨bp0, 0, none⟩), .int .i64 p1] w (Ret fun v_ w' => ∃ o' : Nat → Nat, v_ = .bool r ∧ St [] w o w' o') := by
  refine x_enter (vs := [.pointer (some ⟨bp0, 0, none⟩), .int .i64 p1]) Try.func23 rfl rfl rfl fun a hk => ?_
  obtain ⟨o0, hs, h0⟩ := St.start w o
  have f900000 := h0 _ _ hp0_0
  have f900019 := h0 _ _ hp0
  clear h0
  rw [net_Net_is] at H
  refine x_seq ?_
  refine wpIn_region_lit ?_
  refine x_run tab hk (k := 1) (lv := []) (ks := [0, 1]) (e' := [(0, .pointer (some ⟨bp0, 0, none⟩)), (1, .int .i64 p1)]) rfl trivial fun a hk => ?_
  refine wpListIn_nil ?_
  refine then_n ?_
  refine x_seq ?_
  refine wpIn_region_lit ?_
  refine x_run tab hk (k := 3) (lv := []) (ks := [0, 1, 7]) (e' := [(0, .pointer (some ⟨bp0, 0, none⟩)), (1, .int .i64 p1), (7, .bool (decide (p1 ≥ (0 : Int))))]) rfl trivial fun a hk => ?_
  cases b1 : (decide (p1 ≥ (0 : Int)))
  · rw [b1] at hk H
    replace H := bifF H
    refine x_run tab hk (k := 9) (lv := []) (ks := [4]) (e' := [(4, .bool false)]) rfl trivial fun a hk => ?_
    refine wpListIn_nil ?_
    refine then_n ?_
    refine wpIn_ret ?_
    obtain rfl := Option.some.inj H
    exact x_retG hk (rs := [.tmp 4]) (vs := [.bool false]) rfl ⟨rfl, trivial⟩ ⟨fun b_ => if b_ < w.heap.size then o b_ else (fun _ => 0) (o0 b_), rfl, hs.close0 o (fun _ => 0)⟩
  · rw [b1] at hk H
    replace H := bifT H
    refine x_run tab hk (k := 9) (lv := [.slice Ap0_0 (p0.l).length cp0_0]) (ks := [4]) (e' := [(4, .bool (decide (p1 < ((p0.l).length : Int))))]) rfl ⟨(load1 tab rfl ((Bx.cell f900019.now 2).trans rfl)), trivial⟩ fun a hk => ?_
    refine wpListIn_nil ?_
    refine then_n ?_
    refine wpIn_ret ?_
    obtain rfl := Option.some.inj H
    exact x_retG hk (rs := [.tmp 4]) (vs := [.bool (decide (p1 < ((p0.l).length : Int)))]) rfl ⟨rfl, trivial⟩ ⟨fun b_ => if b_ < w.heap.size then o b_ else (fun _ => 0) (o0 b_), rfl, hs.close0 o (fun _ => 0)⟩

/-! slices.Delete[[]tidewrack/net.Gram,tidewrack/net.Gram] -/
theorem net_Gram_calls (Ap0 : Option Addr) (cp0 : Nat) (p0 : List T28) (p1 : Int) (p2 : Int) (w : World) (o : Nat → Nat) (Lp0 : Nat) (hp0 : Ft (Own ET28 29 (.slice Ap0 (p0).length cp0) p0) w o Lp0) (hcp0 : (p0).length ≤ cp0) (hd0 : ([Lp0] : List Nat).Nodup) (r : List T28) (H : net_Gram p0 p1 p2 = some r) :
    Calls Try.prog 24 #[.slice Ap0 (p0).length cp0, .int .i64 p1, .int .i64 p2] w (Ret fun v_ w' => ∃ o' : Nat → Nat, ∃ A0 : Option Addr, ∃ c0 : Nat, v_ = .slice A0 (r).length c0 ∧ St [Lp0] w o w' o' ∧ Ft (Own ET28 29 (.slice A0 (r).length c0) (r)) w' o' Lp0 ∧ (r).length ≤ c0) := by
  refine x_enter (vs := [.slice Ap0 (p0).length cp0, .int .i64 p1, .int .i64 p2]) Try.func24 rfl rfl rfl fun a hk => ?_
  obtain ⟨oi, hs0, h0, h1, hob, hoz, hoa⟩ := St.startM2 w o (m := 1) hd0 rfl
  have hs := hs0 [1]
  have hom := lab_in hob (MM := [1]) (by decide)
  have f900000 := h1 0 1 hp0 rfl rfl
  clear h0 h1 hs0
  rw [net_Gram] at H
  refine x_seq ?_
  refine wpIn_region_lit ?_
  refine x_run tab hk (k := 1) (lv := []) (ks := [0, 1, 2]) (e' := [(0, .slice Ap0 (p0).length cp0), (1, .int .i64 p1), (2, .int .i64 p2)]) rfl trivial fun a hk => ?_
  refine wpListIn_nil ?_
  refine then_n ?_
  refine x_seq ?_
  refine wpIn_region_lit ?_
  obtain ⟨q1, H⟩ := ifS H
  obtain ⟨q2, H⟩ := ifS H
  obtain ⟨q3, H⟩ := ifS H
  obtain ⟨v4, ak5⟩ := ask_cut3 (P := Try.prog) tab (t := 54) rfl rfl Ap0 (p0).length cp0 .i64 .i64 .i64 p1 p2 ((p0).length : Int) q1 q2 q3 (by have := hcp0; omega)
  refine x_run tab hk (k := 6) (lv := [v4]) (ks := [0, 1, 2]) (e' := [(0, .slice Ap0 (p0).length cp0), (1, .int .i64 p1), (2, .int .i64 p2)]) rfl ⟨(ak5 rfl rfl rfl rfl _), trivial⟩ fun a hk => ?_
  refine wpListIn_nil ?_
  refine then_n ?_
  refine x_seq ?_
  refine x_seq ?_
  refine wpIn_region_lit ?_
  refine x_run tab hk (k := 3) (lv := []) (ks := [0, 1, 2, 16]) (e' := [(0, .slice Ap0 (p0).length cp0), (1, .int .i64 p1), (2, .int .i64 p2), (16, .bool (p1 == p2))]) rfl trivial fun a hk => ?_
  refine wpListIn_nil ?_
  refine then_n ?_
  cases b6 : (p1 == p2)
  · rw [b6] at hk H
    replace H := bifF H
    refine x_if hk (b := false) rfl ?_
    refine (show Code.wpIn _ _ _ _ _ _ _ from ?_)
    refine wpIn_skip ?_
    refine then_n ?_
    refine x_seq ?_
    refine wpIn_region_lit ?_
    refine x_run tab hk (k := 3) (lv := []) (ks := [0, 1, 2, 7]) (e' := [(0, .slice Ap0 (p0).length cp0), (1, .int .i64 p1), (2, .int .i64 p2), (7, .int .i64 ((p0).length : Int))]) rfl trivial fun a hk => ?_
    refine wpListIn_nil ?_
    refine then_n ?_
    refine x_seq ?_
    refine xd_begin (o := oi) (fun W_ => True) mixed rfl rfl fun w39 st40 => ?_
    replace f900000 := f900000.st st40 (by decide)
    replace hs := hs.locM st40 (by decide) hom
    obtain ⟨q41, H⟩ := ifS H
    obtain ⟨ak45, f44, hc46⟩ := ask_takeE (P := Try.prog) tab (t := 54) rfl rfl f900000 hcp0 (k := .i64) p1 q1 q41
    obtain ⟨q47, H⟩ := ifS H
    obtain ⟨A48, c49, ak51, f50, hc52⟩ := ask_cut (P := Try.prog) tab (t := 54) rfl rfl (f900000.imp fun _ h_ => Own.rd h_) hcp0 (some (.int .i64 p2)) none rfl ⟨q47, (by have := q3; omega), trivial⟩ (by have := q47; have := q3; omega) (Nat.le_refl _)
    refine xd_take tab hk (k := 2) (is := [0, 1, 2, 3, 4, 5]) (ls' := #[true, true, true, true, true, true, false, false]) (lv := [.slice Ap0 ((List.take (Int.toNat p1) p0)).length cp0, .slice A48 ((List.drop (Int.toNat p2) (List.take (p0).length p0))).length c49]) (ks := [0, 7, 22, 25]) (e' := [(0, .slice Ap0 (p0).length cp0), (7, .int .i64 ((p0).length : Int)), (22, .slice Ap0 ((List.take (Int.toNat p1) p0)).length cp0), (25, .slice A48 ((List.drop (Int.toNat p2) (List.take (p0).length p0))).length c49)]) (by kernel_rfl) rfl rfl (by kernel_rfl) (np_then np_body) trivial (fun W_ hS => ⟨(ak45 rfl rfl _), (ak51 rfl rfl rfl _), trivial⟩) fun a hk => ?_
    refine xd_op hk (i := 6) (by kernel_rfl) rfl rfl ?_
    refine op_appendI (o := oi) (E := ET28) (xs := (List.take (Int.toNat p1) p0)) (ys := (List.drop (Int.toNat p2) (List.take (p0).length p0))) tab hk rfl rfl rfl rfl f44 f50.now (by have := hcp0; have := hc46; have := hc52; have := q1; have := q2; have := q3; have := q41; have := q47; (try simp only [List.length_append, List.length_take, List.length_drop]); omega) fun w53 st55 f56 => ?_
    replace hs := hs.locM st55 (by decide) hom
    have hk := hk.put 26 (.slice Ap0 (((List.take (Int.toNat p1) p0) ++ (List.drop (Int.toNat p2) (List.take (p0).length p0)))).length cp0) rfl
    refine ⟨.inr trivial, ?_⟩
    refine xd_take tab hk (k := 0) (is := [7]) (ls' := #[true, true, true, true, true, true, true, true]) (lv := []) (ks := [0, 7]) (e' := [(0, .slice Ap0 (((List.take (Int.toNat p1) p0) ++ (List.drop (Int.toNat p2) (List.take (p0).length p0)))).length cp0), (7, .int .i64 ((p0).length : Int))]) (by kernel_rfl) rfl rfl (by kernel_rfl) (np_then np_body) trivial (fun W_ hS => trivial) fun a hk => ?_
    refine xd_done (by kernel_rfl) ?_
    refine then_n ?_
    refine x_seq ?_
    refine wpIn_region_lit ?_
    refine x_run tab hk (k := 5) (lv := [(.slice (if cp0 = (((List.take (Int.toNat p1) p0) ++ (List.drop (Int.toNat p2) (List.take (p0).length p0)))).length then Ap0 else (Ap0).map (·.add ((((List.take (Int.toNat p1) p0) ++ (List.drop (Int.toNat p2) (List.take (p0).length p0)))).length * 3))) (Int.toNat ((p0).length : Int) - (((List.take (Int.toNat p1) p0) ++ (List.drop (Int.toNat p2) (List.take (p0).length p0)))).length) (cp0 - (((List.take (Int.toNat p1) p0) ++ (List.drop (Int.toNat p2) (List.take (p0).length p0)))).length))]) (ks := [0, 31]) (e' := [(0, .slice Ap0 (((List.take (Int.toNat p1) p0) ++ (List.drop (Int.toNat p2) (List.take (p0).length p0)))).length cp0), (31, (.slice (if cp0 = (((List.take (Int.toNat p1) p0) ++ (List.drop (Int.toNat p2) (List.take (p0).length p0)))).length then Ap0 else (Ap0).map (·.add ((((List.take (Int.toNat p1) p0) ++ (List.drop (Int.toNat p2) (List.take (p0).length p0)))).length * 3))) (Int.toNat ((p0).length : Int) - (((List.take (Int.toNat p1) p0) ++ (List.drop (Int.toNat p2) (List.take (p0).length p0)))).length) (cp0 - (((List.take (Int.toNat p1) p0) ++ (List.drop (Int.toNat p2) (List.take (p0).length p0)))).length)))]) rfl ⟨(ask_tail tab rfl rfl (by omega) (by have := (Own.cap f56.now).2; have := q1; have := q2; have := q3; have := q41; have := q47; (try simp only [List.length_append, List.length_take, List.length_drop]); omega) (by have := (Own.cap f56.now).2; have := q1; have := q2; have := q3; have := q41; have := q47; (try simp only [List.length_append, List.length_take, List.length_drop]); omega) rfl rfl rfl), trivial⟩ fun a hk => ?_
    refine x_op hk rfl ?_
    refine op_clearTail (o := oi) (E := ET28) (xs := ((List.take (Int.toNat p1) p0) ++ (List.drop (Int.toNat p2) (List.take (p0).length p0)))) (hh := Int.toNat ((p0).length : Int)) tab hk rfl rfl rfl (by kernel_rfl) rfl f56 (by have := (Own.cap f56.now).2; have := q1; have := q2; have := q3; have := q41; have := q47; (try simp only [List.length_append, List.length_take, List.length_drop]); omega) (by have := (Own.cap f56.now).2; have h_ := (by have := (Own.cap f56.now).2; have := q1; have := q2; have := q3; have := q41; have := q47; (try simp only [List.length_append, List.length_take, List.length_drop]); omega); omega) fun w57 st59 f60 => ?_
    replace hs := hs.locM st59 (by decide) hom
    refine wpListIn_nil ?_
    refine then_n ?_
    refine x_seq ?_
    refine wpIn_region_lit ?_
    refine x_run tab hk (k := 2) (lv := []) (ks := [6]) (e' := [(6, .slice Ap0 (((List.take (Int.toNat p1) p0) ++ (List.drop (Int.toNat p2) (List.take (p0).length p0)))).length cp0)]) rfl trivial fun a hk => ?_
    refine wpListIn_nil ?_
    refine then_n ?_
    refine wpIn_ret ?_
    obtain rfl := Option.some.inj H
    exact x_retG hk (rs := [.tmp 6]) (vs := [.slice Ap0 (((List.take (Int.toNat p1) p0) ++ (List.drop (Int.toNat p2) (List.take (p0).length p0)))).length cp0]) rfl ⟨rfl, trivial⟩ ⟨fun b_ => if b_ < w.heap.size then o b_ else (fun l_ => if l_ = 1 then Lp0 else 0) (oi b_), Ap0, cp0, rfl, hs.closeM hoz (by decide) (fun l_ => if l_ = 1 then Lp0 else 0), hs.closeM_ft (o := o) (ρ := fun l_ => if l_ = 1 then Lp0 else 0) f60 (lab_at hoa (i := 0) rfl) rfl, (Own.cap f60.now).2⟩
  · rw [b6] at hk H
    replace H := bifT H
    refine x_if hk (b := true) rfl ?_
    refine (show Code.wpIn _ _ _ _ _ _ _ from ?_)
    refine x_seq ?_
    refine wpIn_region_lit ?_
    refine x_run tab hk (k := 2) (lv := []) (ks := [6]) (e' := [(6, .slice Ap0 (p0).length cp0)]) rfl trivial fun a hk => ?_
    refine wpListIn_nil ?_
    refine then_n ?_
    refine wpIn_ret ?_
    refine then_r ?_
    obtain rfl := Option.some.inj H
    exact x_retG hk (rs := [.tmp 6]) (vs := [.slice Ap0 (p0).length cp0]) rfl ⟨rfl, trivial⟩ ⟨fun b_ => if b_ < w.heap.size then o b_ else (fun l_ => if l_ = 1 then Lp0 else 0) (oi b_), Ap0, cp0, rfl, hs.closeM hoz (by decide) (fun l_ => if l_ = 1 then Lp0 else 0), hs.closeM_ft (o := o) (ρ := fun l_ => if l_ = 1 then Lp0 else 0) f900000 (lab_at hoa (i := 0) rfl) rfl, hcp0⟩

/-! (*tidewrack/net.Net).Take -/
theorem net_Net_Take_calls (bp0 : Nat) (Ap0_0 : Option Addr) (cp0_0 : Nat) (p0 : T55) (p1 : Int) (w : World) (o : Nat → Nat) (Lp0 : Nat) (hp0 : Ft (Bx bp0 56 [.int .i64 p0.most, .int .i64 p0.lost, .slice Ap0_0 (p0.l).length cp0_0]) w o Lp0) (Lp0_0 : Nat) (hp0_0 : Ft (Own ET28 29 (.slice Ap0_0 (p0.l).length cp0_0) p0.l) w o Lp0_0) (hcp0_0 : (p0.l).length ≤ cp0_0) (hd0 : ([Lp0, Lp0_0] : List Nat).Nodup) (r : T28 × Bool × T55) (H : net_Net_Take p0 p1 = some r) :
    Calls Try.prog 12 #[.pointer (some ⟨bp0, 0, none⟩), .int .i64 p1] w (Ret fun v_ w' => ∃ o' : Nat → Nat, ∃ A0 : Option Addr, ∃ c0 : Nat, v_ = .tuple #[.agg #[.int .i64 r.1.From, .int .i64 r.1.To, .string r.1.Data], .bool r.2.1] ∧ St [Lp0, Lp0_0] w o w' o' ∧ Ft (Bx bp0 56 [.int .i64 r.2.2.most, .int .i64 r.2.2.lost, .slice A0 (r.2.2.l).length c0]) w' o' Lp0 ∧ Ft (Own ET28 29 (.slice A0 (r.2.2.l).length c0) (r.2.2.l)) w' o' Lp0_0 ∧ (r.2.2.l).length ≤ c0) := by
  refine x_enter (vs := [.pointer (some ⟨bp0, 0, none⟩), .int .i64 p1]) Try.func12 rfl rfl rfl fun a hk => ?_
  obtain ⟨oi, hs0, h0, h1, hob, hoz, hoa⟩ := St.startM2 w o (m := 2) hd0 rfl
  have hs := hs0 [1, 2]
  have hom := lab_in hob (MM := [1, 2]) (by decide)
  have f900000 := h1 1 2 hp0_0 rfl rfl
  have f900019 := h1 0 1 hp0 rfl rfl
  clear h0 h1 hs0
  rw [net_Net_Take] at H
  refine x_seq ?_
  refine wpIn_region_lit ?_
  refine x_op hk rfl ?_
  refine op_alloc (o := oi) tab (t := 29) (cs := [.int .i64 0, .int .i64 0, .string (⟨#[]⟩ : ByteArray)]) rfl rfl 3 fun bx4 w1 o2 st3 f5 => ?_
  replace f900000 := f900000.st st3 (by decide)
  replace f900019 := f900019.st st3 (by decide)
  replace hs := hs.locM st3 (by decide) hom
  have hk := hk.put 4 (.pointer (some ⟨bx4, 0, none⟩)) rfl
  refine x_run tab hk (k := 1) (lv := []) (ks := [0, 1, 4]) (e' := [(0, .pointer (some ⟨bp0, 0, none⟩)), (1, .int .i64 p1), (4, .pointer (some ⟨bx4, 0, none⟩))]) rfl trivial fun a hk => ?_
  refine wpListIn_nil ?_
  refine then_n ?_
  refine x_seq ?_
  refine x_seq ?_
  refine wpIn_region_lit ?_
  refine x_run tab hk (k := 2) (lv := []) (ks := [0, 1, 4, 7, 8]) (e' := [(0, .pointer (some ⟨bp0, 0, none⟩)), (1, .int .i64 p1), (4, .pointer (some ⟨bx4, 0, none⟩)), (7, .pointer (some ⟨bp0, 0, none⟩)), (8, .int .i64 p1)]) rfl trivial fun a hk => ?_
  refine x_op hk rfl ?_
  obtain ⟨t9, hc10, H⟩ := bindS H
  refine op_call hk ent_23 (vs := [.pointer (some ⟨bp0, 0, none⟩), .int .i64 p1]) rfl (net_Net_is_calls bp0 Ap0_0 cp0_0 p0 p1 _ o2 1 f900019 _ (f900000.imp fun _ h_ => Own.rd h_) hcp0_0   _ hc10) ?_
  rintro _ w11 ⟨o12, rfl, st13⟩
  replace f5 := f5.st st13 (by decide)
  replace f900000 := f900000.st st13 (by decide)
  replace f900019 := f900019.st st13 (by decide)
  replace hs := hs.locM st13 (by decide) hom
  have hk := hk.put 9 (.bool t9) rfl
  refine x_run tab hk (k := 1) (lv := []) (ks := [0, 1, 4, 10]) (e' := [(0, .pointer (some ⟨bp0, 0, none⟩)), (1, .int .i64 p1), (4, .pointer (some ⟨bx4, 0, none⟩)), (10, .bool (!t9))]) rfl trivial fun a hk => ?_
  refine wpListIn_nil ?_
  refine then_n ?_
  cases b14 : (!t9)
  · rw [b14] at hk H
    replace H := bifF H
    refine x_if hk (b := false) rfl ?_
    refine (show Code.wpIn _ _ _ _ _ _ _ from ?_)
    refine wpIn_skip ?_
    refine then_n ?_
    refine x_seq ?_
    refine wpIn_region_lit ?_
    obtain ⟨q15, H⟩ := ifS H
    obtain ⟨ad16, hAad16⟩ := RdC.addr (Own.rd f900000.now) q15
    have hk_C := hk
    have f5_C := f5
    have f900000_C := f900000
    have f900019_C := f900019
    subst hAad16
    have hk := hk_C
    clear hk_C
    have f5 := f5_C
    clear f5_C
    have f900000 := f900000_C
    clear f900000_C
    have f900019 := f900019_C
    clear f900019_C
    refine x_run tab hk (k := 7) (lv := [.slice (some ad16) (p0.l).length cp0_0, .agg #[.int .i64 ((rdD zT28 p0.l p1).From), .int .i64 ((rdD zT28 p0.l p1).To), .string ((rdD zT28 p0.l p1).Data)]]) (ks := [0, 1, 4, 18]) (e' := [(0, .pointer (some ⟨bp0, 0, none⟩)), (1, .int .i64 p1), (4, .pointer (some ⟨bx4, 0, none⟩)), (18, .agg #[.int .i64 ((rdD zT28 p0.l p1).From), .int .i64 ((rdD zT28 p0.l p1).To), .string ((rdD zT28 p0.l p1).Data)])]) rfl ⟨(load1 tab rfl ((Bx.cell f900019.now 2).trans rfl)), q15, (load_elem (E := ET28) (i := p1) (dx := zT28) tab rfl rfl (Own.rd f900000.now) q15), trivial⟩ fun a hk => ?_
    refine x_op hk rfl ?_
    refine op_alloc (o := o12) tab (t := 29) (cs := [.int .i64 0, .int .i64 0, .string (⟨#[]⟩ : ByteArray)]) rfl rfl 4 fun bx20 w17 o18 st19 f21 => ?_
    replace f5 := f5.st st19 (by decide)
    replace f900000 := f900000.st st19 (by decide)
    replace f900019 := f900019.st st19 (by decide)
    replace hs := hs.locM st19 (by decide) hom
    have hk := hk.put 6 (.pointer (some ⟨bx20, 0, none⟩)) rfl
    refine x_op hk rfl ?_
    refine op_store tab hk (t := 29) (v := .agg #[.int .i64 ((rdD zT28 p0.l p1).From), .int .i64 ((rdD zT28 p0.l p1).To), .string ((rdD zT28 p0.l p1).Data)]) (b := bx20) (k := 0) (cs' := [.int .i64 ((rdD zT28 p0.l p1).From), .int .i64 ((rdD zT28 p0.l p1).To), .string ((rdD zT28 p0.l p1).Data)]) rfl rfl rfl rfl rfl rfl f21 rfl rfl fun w22 o23 st24 f21_ => ?_
    replace f5 := f5.st st24 (by decide)
    replace f900000 := f900000.st st24 (by decide)
    replace f900019 := f900019.st st24 (by decide)
    replace hs := hs.locM st24 (by decide) hom
    replace f21 := f21_
    refine wpListIn_nil ?_
    refine then_n ?_
    refine x_seq ?_
    refine wpIn_region_lit ?_
    refine x_run tab hk (k := 8) (lv := [.slice (some ad16) (p0.l).length cp0_0]) (ks := [4, 6, 19, 23, 24, 26]) (e' := [(4, .pointer (some ⟨bx4, 0, none⟩)), (6, .pointer (some ⟨bx20, 0, none⟩)), (19, .pointer (some ⟨bp0, 0, none⟩)), (23, .slice (some ad16) (p0.l).length cp0_0), (24, .int .i64 p1), (26, .int .i64 (IntKind.wrap .i64 (p1 + 1)))]) rfl ⟨(load1 tab rfl ((Bx.cell f900019.now 2).trans rfl)), trivial⟩ fun a hk => ?_
    refine x_op hk rfl ?_
    obtain ⟨t28, hc29, H⟩ := bindS H
    refine op_call hk ent_24 (vs := [.slice (some ad16) (p0.l).length cp0_0, .int .i64 p1, .int .i64 (IntKind.wrap .i64 (p1 + 1))]) rfl (net_Gram_calls (some ad16) cp0_0 p0.l p1 (IntKind.wrap .i64 (p1 + 1)) _ o23 2 f900000 hcp0_0 (by decide)   _ hc29) ?_
    rintro _ w30 ⟨o31, A33, c34, rfl, st32, f35, hc36⟩
    replace f21 := f21.st st32 (by decide)
    replace f5 := f5.st st32 (by decide)
    replace f900019 := f900019.st st32 (by decide)
    replace hs := hs.locM st32 (by decide) hom
    have hk := hk.put 27 (.slice A33 (t28).length c34) rfl
    refine x_run tab hk (k := 2) (lv := []) (ks := [4, 6, 27, 29]) (e' := [(4, .pointer (some ⟨bx4, 0, none⟩)), (6, .pointer (some ⟨bx20, 0, none⟩)), (27, .slice A33 (t28).length c34), (29, .pointer (some ((⟨bp0, 0, none⟩ : Addr).add 2)))]) rfl trivial fun a hk => ?_
    refine x_op hk rfl ?_
    refine op_store tab hk (t := 54) (v := .slice A33 (t28).length c34) (b := bp0) (k := 2) (cs' := [.int .i64 p0.most, .int .i64 p0.lost, .slice A33 (t28).length c34]) rfl rfl rfl rfl rfl rfl f900019 rfl rfl fun w37 o38 st39 f900019_ => ?_
    replace f21 := f21.st st39 (by decide)
    replace f35 := f35.st st39 (by decide)
    replace f5 := f5.st st39 (by decide)
    replace hs := hs.locM st39 (by decide) hom
    replace f900019 := f900019_
    refine wpListIn_nil ?_
    refine then_n ?_
    refine x_seq ?_
    refine wpIn_region_lit ?_
    refine x_run tab hk (k := 1) (lv := [.agg #[.int .i64 ((rdD zT28 p0.l p1).From), .int .i64 ((rdD zT28 p0.l p1).To), .string ((rdD zT28 p0.l p1).Data)]]) (ks := [4, 30]) (e' := [(4, .pointer (some ⟨bx4, 0, none⟩)), (30, .agg #[.int .i64 ((rdD zT28 p0.l p1).From), .int .i64 ((rdD zT28 p0.l p1).To), .string ((rdD zT28 p0.l p1).Data)])]) rfl ⟨(load_box tab rfl rfl f21.now (k := 0) rfl rfl), trivial⟩ fun a hk => ?_
    refine x_op hk rfl ?_
    refine op_store tab hk (t := 29) (v := .agg #[.int .i64 ((rdD zT28 p0.l p1).From), .int .i64 ((rdD zT28 p0.l p1).To), .string ((rdD zT28 p0.l p1).Data)]) (b := bx4) (k := 0) (cs' := [.int .i64 ((rdD zT28 p0.l p1).From), .int .i64 ((rdD zT28 p0.l p1).To), .string ((rdD zT28 p0.l p1).Data)]) rfl rfl rfl rfl rfl rfl f5 rfl rfl fun w40 o41 st42 f5_ => ?_
    replace f35 := f35.st st42 (by decide)
    replace f900019 := f900019.st st42 (by decide)
    replace hs := hs.locM st42 (by decide) hom
    replace f5 := f5_
    refine x_run tab hk (k := 1) (lv := []) (ks := [4, 5]) (e' := [(4, .pointer (some ⟨bx4, 0, none⟩)), (5, .bool true)]) rfl trivial fun a hk => ?_
    refine wpListIn_nil ?_
    refine then_n ?_
    refine wpIn_ret ?_
    obtain rfl := Option.some.inj H
    exact x_retG hk (rs := [.cell 4 29, .tmp 5]) (vs := [.agg #[.int .i64 ((rdD zT28 p0.l p1).From), .int .i64 ((rdD zT28 p0.l p1).To), .string ((rdD zT28 p0.l p1).Data)], .bool true]) rfl ⟨⟨_, rfl, load_box tab rfl rfl f5.now (k := 0) rfl rfl⟩, rfl, trivial⟩ ⟨fun b_ => if b_ < w.heap.size then o b_ else (fun l_ => if l_ = 1 then Lp0 else if l_ = 2 then Lp0_0 else 0) (o41 b_), A33, c34, rfl, hs.closeM hoz (by decide) (fun l_ => if l_ = 1 then Lp0 else if l_ = 2 then Lp0_0 else 0), hs.closeM_ft (o := o) (ρ := fun l_ => if l_ = 1 then Lp0 else if l_ = 2 then Lp0_0 else 0) f900019 (lab_at hoa (i := 0) rfl) rfl, hs.closeM_ft (o := o) (ρ := fun l_ => if l_ = 1 then Lp0 else if l_ = 2 then Lp0_0 else 0) f35 (lab_at hoa (i := 1) rfl) rfl, hc36⟩
  · rw [b14] at hk H
    replace H := bifT H
    refine x_if hk (b := true) rfl ?_
    refine (show Code.wpIn _ _ _ _ _ _ _ from ?_)
    refine x_seq ?_
    refine wpIn_region_lit ?_
    refine x_run tab hk (k := 1) (lv := []) (ks := [4, 11]) (e' := [(4, .pointer (some ⟨bx4, 0, none⟩)), (11, .agg #[.int .i64 0, .int .i64 0, .string (⟨#[]⟩ : ByteArray)])]) rfl trivial fun a hk => ?_
    refine x_op hk rfl ?_
    refine op_store tab hk (t := 29) (v := .agg #[.int .i64 0, .int .i64 0, .string (⟨#[]⟩ : ByteArray)]) (b := bx4) (k := 0) (cs' := [.int .i64 0, .int .i64 0, .string (⟨#[]⟩ : ByteArray)]) rfl rfl rfl rfl rfl rfl f5 rfl rfl fun w43 o44 st45 f5_ => ?_
    replace f900000 := f900000.st st45 (by decide)
    replace f900019 := f900019.st st45 (by decide)
    replace hs := hs.locM st45 (by decide) hom
    replace f5 := f5_
    refine x_run tab hk (k := 1) (lv := []) (ks := [4, 5]) (e' := [(4, .pointer (some ⟨bx4, 0, none⟩)), (5, .bool false)]) rfl trivial fun a hk => ?_
    refine wpListIn_nil ?_
    refine then_n ?_
    refine wpIn_ret ?_
    refine then_r ?_
    obtain rfl := Option.some.inj H
    exact x_retG hk (rs := [.cell 4 29, .tmp 5]) (vs := [.agg #[.int .i64 0, .int .i64 0, .string (⟨#[]⟩ : ByteArray)], .bool false]) rfl ⟨⟨_, rfl, load_box tab rfl rfl f5.now (k := 0) rfl rfl⟩, rfl, trivial⟩ ⟨fun b_ => if b_ < w.heap.size then o b_ else (fun l_ => if l_ = 1 then Lp0 else if l_ = 2 then Lp0_0 else 0) (o44 b_), Ap0_0, cp0_0, rfl, hs.closeM hoz (by decide) (fun l_ => if l_ = 1 then Lp0 else if l_ = 2 then Lp0_0 else 0), hs.closeM_ft (o := o) (ρ := fun l_ => if l_ = 1 then Lp0 else if l_ = 2 then Lp0_0 else 0) f900019 (lab_at hoa (i := 0) rfl) rfl, hs.closeM_ft (o := o) (ρ := fun l_ => if l_ = 1 then Lp0 else if l_ = 2 then Lp0_0 else 0) f900000 (lab_at hoa (i := 1) rfl) rfl, hcp0_0⟩

/-! (*tidewrack/net.Net).Lost -/
theorem net_Net_Lost_calls (bp0 : Nat) (Ap0_0 : Option Addr) (cp0_0 : Nat) (p0 : T55) (w : World) (o : Nat → Nat) (Lp0 : Nat) (hp0 : Ft (Bx bp0 56 [.int .i64 p0.most, .int .i64 p0.lost, .slice Ap0_0 (p0.l).length cp0_0]) w o Lp0) (Lp0_0 : Nat) (hp0_0 : Ft (RdC ET28 Ap0_0 p0.l) w o Lp0_0) (hcp0_0 : (p0.l).length ≤ cp0_0)  (r : Int) (H : net_Net_Lost p0 = some r) :
    Calls Try.prog 14 #[.pointer (some ⟨bp0, 0, none⟩)] w (Ret fun v_ w' => ∃ o' : Nat → Nat, v_ = .int .i64 r ∧ St [] w o w' o') := by
  refine x_enter (vs := [.pointer (some ⟨bp0, 0, none⟩)]) Try.func14 rfl rfl rfl fun a hk => ?_
  obtain ⟨o0, hs, h0⟩ := St.start w o
  have f900000 := h0 _ _ hp0_0
  have f900019 := h0 _ _ hp0
  clear h0
  rw [net_Net_Lost] at H
  refine x_seq ?_
  refine wpIn_region_lit ?_
  refine x_run tab hk (k := 1) (lv := []) (ks := [0]) (e' := [(0, .pointer (some ⟨bp0, 0, none⟩))]) rfl trivial fun a hk => ?_
  refine wpListIn_nil ?_
  refine then_n ?_
  refine x_seq ?_
  refine wpIn_region_lit ?_
  refine x_run tab hk (k := 5) (lv := [.int .i64 p0.lost]) (ks := [2]) (e' := [(2, .int .i64 p0.lost)]) rfl ⟨(load1 tab rfl ((Bx.cell f900019.now 1).trans rfl)), trivial⟩ fun a hk => ?_
  refine wpListIn_nil ?_
  refine then_n ?_
  refine wpIn_ret ?_
  obtain rfl := Option.some.inj H
  exact x_retG hk (rs := [.tmp 2]) (vs := [.int .i64 p0.lost]) rfl ⟨rfl, trivial⟩ ⟨fun b_ => if b_ < w.heap.size then o b_ else (fun _ => 0) (o0 b_), rfl, hs.close0 o (fun _ => 0)⟩

/-! (*tidewrack/net.Net).Len -/
theorem net_Net_Len_calls (bp0 : Nat) (Ap0_0 : Option Addr) (cp0_0 : Nat) (p0 : T55) (w : World) (o : Nat → Nat) (Lp0 : Nat) (hp0 : Ft (Bx bp0 56 [.int .i64 p0.most, .int .i64 p0.lost, .slice Ap0_0 (p0.l).length cp0_0]) w o Lp0) (Lp0_0 : Nat) (hp0_0 : Ft (RdC ET28 Ap0_0 p0.l) w o Lp0_0) (hcp0_0 : (p0.l).length ≤ cp0_0)  (r : Int) (H : net_Net_Len p0 = some r) :
    Calls Try.prog 13 #[.pointer (some ⟨bp0, 0, none⟩)] w (Ret fun v_ w' => ∃ o' : Nat → Nat, v_ = .int .i64 r ∧ St [] w o w' o') := by
  refine x_enter (vs := [.pointer (some ⟨bp0, 0, none⟩)]) Try.func13 rfl rfl rfl fun a hk => ?_
  obtain ⟨o0, hs, h0⟩ := St.start w o
  have f900000 := h0 _ _ hp0_0
  have f900019 := h0 _ _ hp0
  clear h0
  rw [net_Net_Len] at H
  refine x_seq ?_
  refine wpIn_region_lit ?_
  refine x_run tab hk (k := 1) (lv := []) (ks := [0]) (e' := [(0, .pointer (some ⟨bp0, 0, none⟩))]) rfl trivial fun a hk => ?_
  refine wpListIn_nil ?_
  refine then_n ?_
  refine x_seq ?_
  refine wpIn_region_lit ?_
  refine x_run tab hk (k := 6) (lv := [.slice Ap0_0 (p0.l).length cp0_0]) (ks := [2]) (e' := [(2, .int .i64 ((p0.l).length : Int))]) rfl ⟨(load1 tab rfl ((Bx.cell f900019.now 2).trans rfl)), trivial⟩ fun a hk => ?_
  refine wpListIn_nil ?_
  refine then_n ?_
  refine wpIn_ret ?_
  obtain rfl := Option.some.inj H
  exact x_retG hk (rs := [.tmp 2]) (vs := [.int .i64 ((p0.l).length : Int)]) rfl ⟨rfl, trivial⟩ ⟨fun b_ => if b_ < w.heap.size then o b_ else (fun _ => 0) (o0 b_), rfl, hs.close0 o (fun _ => 0)⟩

/-! tidewrack/tidewracklaw25.awake -/
theorem tidewracklaw25_awake_calls (K : Nat)  (w : World) (o : Nat → Nat)   (r : Bool) (H : tidewracklaw25_awake K = some r) :
    Calls Try.prog 6 #[] w (Ret fun v_ w' => ∃ o' : Nat → Nat, v_ = .bool r ∧ St [] w o w' o') := by
  refine x_enter (vs := []) Try.func6 rfl rfl rfl fun a hk => ?_
  obtain ⟨o0, hs, h0⟩ := St.start w o
  clear h0
  rw [tidewracklaw25_awake] at H
  refine x_seq ?_
  refine wpIn_region_lit ?_
  refine x_run tab hk (k := 1) (lv := []) (ks := []) (e' := []) rfl trivial fun a hk => ?_
  refine wpListIn_nil ?_
  refine then_n ?_
  refine x_seq ?_
  refine wpIn_region_lit ?_
  refine x_op hk rfl ?_
  obtain ⟨t4, hc5, H⟩ := bindS H
  refine op_call hk ent_7 (vs := [.int .i64 1]) rfl (net_New_calls 1 _ o0  1 2  _ hc5) ?_
  rintro _ w6 ⟨o7, bx9, A11, c12, rfl, st8, f10, f13, hc14⟩
  replace hs := hs.loc0 st8 (by decide)
  have hk := hk.put 5 (.pointer (some ⟨bx9, 0, none⟩)) rfl
  refine x_run tab hk (k := 1) (lv := []) (ks := [1]) (e' := [(1, .pointer (some ⟨bx9, 0, none⟩))]) rfl trivial fun a hk => ?_
  refine wpListIn_nil ?_
  refine then_n ?_
  refine x_seq ?_
  refine x_seq ?_
  refine wpIn_region_lit ?_
  refine x_run tab hk (k := 2) (lv := []) (ks := [1, 7]) (e' := [(1, .pointer (some ⟨bx9, 0, none⟩)), (7, .bool false)]) rfl trivial fun a hk => ?_
  refine wpListIn_nil ?_
  refine then_n ?_
  refine x_if hk (b := false) rfl ?_
  refine (show Code.wpIn _ _ _ _ _ _ _ from ?_)
  refine wpIn_skip ?_
  refine then_n ?_
  refine x_seq ?_
  refine wpIn_region_lit ?_
  refine x_run tab hk (k := 3) (lv := []) (ks := [1, 8, 9, 10]) (e' := [(1, .pointer (some ⟨bx9, 0, none⟩)), (8, .pointer (some ⟨bx9, 0, none⟩)), (9, .agg #[.int .i64 1, .int .i64 2, .string (⟨#[97]⟩ : ByteArray)]), (10, .agg #[.int .i64 0, .int .i64 0, .string (⟨#[98]⟩ : ByteArray)])]) rfl trivial fun a hk => ?_
  refine x_op hk rfl ?_
  refine op_slice (o := o7) tab hk (vs := [.agg #[.int .i64 1, .int .i64 2, .string (⟨#[97]⟩ : ByteArray)], .agg #[.int .i64 0, .int .i64 0, .string (⟨#[98]⟩ : ByteArray)]]) (cs := [.int .i64 1, .int .i64 2, .string (⟨#[97]⟩ : ByteArray), .int .i64 0, .int .i64 0, .string (⟨#[98]⟩ : ByteArray)]) rfl rfl rfl rfl rfl rfl rfl rfl rfl 3 fun bx18 w15 o16 st17 f19 => ?_
  replace f10 := f10.st st17 (by decide)
  replace f13 := f13.st st17 (by decide)
  replace hs := hs.loc0 st17 (by decide)
  have f20 : Ft (Own ET28 29 (.slice (some ⟨bx18, 0, none⟩) (([(⟨1, 2, (⟨#[97]⟩ : ByteArray)⟩ : T28), (⟨0, 0, (⟨#[98]⟩ : ByteArray)⟩ : T28)] : List T28)).length 2) ([(⟨1, 2, (⟨#[97]⟩ : ByteArray)⟩ : T28), (⟨0, 0, (⟨#[98]⟩ : ByteArray)⟩ : T28)] : List T28)) w15 o16 3 := f19.imp fun _ h_ => Own.of_box h_ rfl (by simp)
  have hk := hk.put 11 (.slice (some ⟨bx18, 0, none⟩) (([(⟨1, 2, (⟨#[97]⟩ : ByteArray)⟩ : T28), (⟨0, 0, (⟨#[98]⟩ : ByteArray)⟩ : T28)] : List T28)).length 2) rfl
  refine x_op hk rfl ?_
  obtain ⟨t24, hc25, H⟩ := bindS H
  refine op_call hk ent_9 (vs := [.pointer (some ⟨bx9, 0, none⟩), .slice (some ⟨bx18, 0, none⟩) (([(⟨1, 2, (⟨#[97]⟩ : ByteArray)⟩ : T28), (⟨0, 0, (⟨#[98]⟩ : ByteArray)⟩ : T28)] : List T28)).length 2]) rfl (net_Net_Send_calls K bx9 A11 c12 t4 (some ⟨bx18, 0, none⟩) 2 ([(⟨1, 2, (⟨#[97]⟩ : ByteArray)⟩ : T28), (⟨0, 0, (⟨#[98]⟩ : ByteArray)⟩ : T28)] : List T28) _ o16 1 f10 2 f13 hc14 _ (f20.imp fun _ h_ => Own.rd h_) (Nat.le_refl _) (by decide) (by decide)   _ hc25) ?_
  rintro _ w26 ⟨o27, A30, c31, rfl, st28, f29, f32, hc33⟩
  replace f20 := f20.st st28 (by decide)
  replace hs := hs.loc0 st28 (by decide)
  have hk := hk.put 12 (.int .i64 t24.1) rfl
  refine x_run tab hk (k := 1) (lv := []) (ks := [1, 2]) (e' := [(1, .pointer (some ⟨bx9, 0, none⟩)), (2, .int .i64 t24.1)]) rfl trivial fun a hk => ?_
  refine wpListIn_nil ?_
  refine then_n ?_
  refine x_seq ?_
  refine wpIn_region_lit ?_
  refine x_run tab hk (k := 1) (lv := []) (ks := [1, 2, 14]) (e' := [(1, .pointer (some ⟨bx9, 0, none⟩)), (2, .int .i64 t24.1), (14, .pointer (some ⟨bx9, 0, none⟩))]) rfl trivial fun a hk => ?_
  refine x_op hk rfl ?_
  obtain ⟨t37, hc38, H⟩ := bindS H
  refine op_call hk ent_12 (vs := [.pointer (some ⟨bx9, 0, none⟩), .int .i64 0]) rfl (net_Net_Take_calls bx9 A30 c31 t24.2 0 _ o27 1 f29 2 f32 hc33 (by decide)   _ hc38) ?_
  rintro _ w39 ⟨o40, A43, c44, rfl, st41, f42, f45, hc46⟩
  replace hs := hs.loc0 st41 (by decide)
  have hk := hk.put 15 (.tuple #[.agg #[.int .i64 t37.1.From, .int .i64 t37.1.To, .string t37.1.Data], .bool t37.2.1]) rfl
  refine x_run tab hk (k := 3) (lv := []) (ks := [1, 2, 16, 17]) (e' := [(1, .pointer (some ⟨bx9, 0, none⟩)), (2, .int .i64 t24.1), (16, .agg #[.int .i64 t37.1.From, .int .i64 t37.1.To, .string t37.1.Data]), (17, .bool t37.2.1)]) rfl trivial fun a hk => ?_
  refine x_op hk rfl ?_
  refine op_alloc (o := o40) tab (t := 29) (cs := [.int .i64 0, .int .i64 0, .string (⟨#[]⟩ : ByteArray)]) rfl rfl 4 fun bx50 w47 o48 st49 f51 => ?_
  replace f42 := f42.st st49 (by decide)
  replace f45 := f45.st st49 (by decide)
  replace hs := hs.loc0 st49 (by decide)
  have hk := hk.put 3 (.pointer (some ⟨bx50, 0, none⟩)) rfl
  refine x_op hk rfl ?_
  refine op_store tab hk (t := 29) (v := .agg #[.int .i64 t37.1.From, .int .i64 t37.1.To, .string t37.1.Data]) (b := bx50) (k := 0) (cs' := [.int .i64 t37.1.From, .int .i64 t37.1.To, .string t37.1.Data]) rfl rfl rfl rfl rfl rfl f51 rfl rfl fun w52 o53 st54 f51_ => ?_
  replace f42 := f42.st st54 (by decide)
  replace f45 := f45.st st54 (by decide)
  replace hs := hs.loc0 st54 (by decide)
  replace f51 := f51_
  refine x_run tab hk (k := 1) (lv := []) (ks := [1, 2, 3, 4]) (e' := [(1, .pointer (some ⟨bx9, 0, none⟩)), (2, .int .i64 t24.1), (3, .pointer (some ⟨bx50, 0, none⟩)), (4, .bool t37.2.1)]) rfl trivial fun a hk => ?_
  refine wpListIn_nil ?_
  refine then_n ?_
  refine x_seq ?_
  refine wpIn_region_lit ?_
  refine x_run tab hk (k := 3) (lv := []) (ks := [1, 3, 4, 20]) (e' := [(1, .pointer (some ⟨bx9, 0, none⟩)), (3, .pointer (some ⟨bx50, 0, none⟩)), (4, .bool t37.2.1), (20, .bool (t24.1 == (1 : Int)))]) rfl trivial fun a hk => ?_
  cases b55 : (t24.1 == (1 : Int))
  · rw [b55] at hk H
    replace H := bifF H
    refine x_run tab hk (k := 11) (lv := []) (ks := [1, 28, 31]) (e' := [(1, .pointer (some ⟨bx9, 0, none⟩)), (28, .bool false), (31, undef)]) rfl trivial fun a hk => ?_
    refine x_run tab hk (k := 7) (lv := []) (ks := [0]) (e' := [(0, .bool false)]) rfl trivial fun a hk => ?_
    refine wpListIn_nil ?_
    refine then_n ?_
    refine wpIn_ret ?_
    obtain rfl := Option.some.inj H
    exact x_retG hk (rs := [.tmp 0]) (vs := [.bool false]) rfl ⟨rfl, trivial⟩ ⟨fun b_ => if b_ < w.heap.size then o b_ else (fun _ => 0) (o53 b_), rfl, hs.close0 o (fun _ => 0)⟩
  · rw [b55] at hk H
    replace H := bifT H
    refine x_run tab hk (k := 1) (lv := []) (ks := [1, 3, 4, 20, 21]) (e' := [(1, .pointer (some ⟨bx9, 0, none⟩)), (3, .pointer (some ⟨bx50, 0, none⟩)), (4, .bool t37.2.1), (20, .bool true), (21, .pointer (some ⟨bx9, 0, none⟩))]) rfl trivial fun a hk => ?_
    refine x_op hk rfl ?_
    obtain ⟨t59, hc60, H⟩ := bindS H
    refine op_call hk ent_14 (vs := [.pointer (some ⟨bx9, 0, none⟩)]) rfl (net_Net_Lost_calls bx9 A43 c44 t37.2.2 _ o53 1 f42 _ (f45.imp fun _ h_ => Own.rd h_) hc46   _ hc60) ?_
    rintro _ w61 ⟨o62, rfl, st63⟩
    replace f42 := f42.st st63 (by decide)
    replace f45 := f45.st st63 (by decide)
    replace f51 := f51.st st63 (by decide)
    replace hs := hs.loc0 st63 (by decide)
    have hk := hk.put 22 (.int .i64 t59) rfl
    refine x_run tab hk (k := 3) (lv := []) (ks := [1, 3, 4, 25]) (e' := [(1, .pointer (some ⟨bx9, 0, none⟩)), (3, .pointer (some ⟨bx50, 0, none⟩)), (4, .bool t37.2.1), (25, .bool (t59 == (1 : Int)))]) rfl trivial fun a hk => ?_
    cases b64 : (t59 == (1 : Int))
    · rw [b64] at hk H
      replace H := bifF H
      refine x_run tab hk (k := 11) (lv := []) (ks := [33, 36]) (e' := [(33, .bool false), (36, undef)]) rfl trivial fun a hk => ?_
      refine x_run tab hk (k := 2) (lv := []) (ks := [0]) (e' := [(0, .bool false)]) rfl trivial fun a hk => ?_
      refine wpListIn_nil ?_
      refine then_n ?_
      refine wpIn_ret ?_
      obtain rfl := Option.some.inj H
      exact x_retG hk (rs := [.tmp 0]) (vs := [.bool false]) rfl ⟨rfl, trivial⟩ ⟨fun b_ => if b_ < w.heap.size then o b_ else (fun _ => 0) (o62 b_), rfl, hs.close0 o (fun _ => 0)⟩
    · rw [b64] at hk H
      replace H := bifT H
      refine x_run tab hk (k := 3) (lv := []) (ks := [1, 3, 28]) (e' := [(1, .pointer (some ⟨bx9, 0, none⟩)), (3, .pointer (some ⟨bx50, 0, none⟩)), (28, .bool t37.2.1)]) rfl trivial fun a hk => ?_
      cases b65 : t37.2.1
      · rw [b65] at hk H
        replace H := bifF H
        refine x_run tab hk (k := 10) (lv := []) (ks := [0]) (e' := [(0, .bool false)]) rfl trivial fun a hk => ?_
        refine wpListIn_nil ?_
        refine then_n ?_
        refine wpIn_ret ?_
        obtain rfl := Option.some.inj H
        exact x_retG hk (rs := [.tmp 0]) (vs := [.bool false]) rfl ⟨rfl, trivial⟩ ⟨fun b_ => if b_ < w.heap.size then o b_ else (fun _ => 0) (o62 b_), rfl, hs.close0 o (fun _ => 0)⟩
      · rw [b65] at hk H
        replace H := bifT H
        refine x_run tab hk (k := 5) (lv := [.agg #[.int .i64 t37.1.From, .int .i64 t37.1.To, .string t37.1.Data], .bool (eqT28 t37.1 (⟨1, 2, (⟨#[97]⟩ : ByteArray)⟩ : T28))]) (ks := [1, 33]) (e' := [(1, .pointer (some ⟨bx9, 0, none⟩)), (33, .bool (eqT28 t37.1 (⟨1, 2, (⟨#[97]⟩ : ByteArray)⟩ : T28)))]) rfl ⟨(load_box tab rfl rfl f51.now (k := 0) rfl rfl), (ask_eq tab stood rfl rfl rfl rfl), trivial⟩ fun a hk => ?_
        cases b66 : (eqT28 t37.1 (⟨1, 2, (⟨#[97]⟩ : ByteArray)⟩ : T28))
        · rw [b66] at hk H
          replace H := bifF H
          refine x_run tab hk (k := 5) (lv := []) (ks := [0]) (e' := [(0, .bool false)]) rfl trivial fun a hk => ?_
          refine wpListIn_nil ?_
          refine then_n ?_
          refine wpIn_ret ?_
          obtain rfl := Option.some.inj H
          exact x_retG hk (rs := [.tmp 0]) (vs := [.bool false]) rfl ⟨rfl, trivial⟩ ⟨fun b_ => if b_ < w.heap.size then o b_ else (fun _ => 0) (o62 b_), rfl, hs.close0 o (fun _ => 0)⟩
        · rw [b66] at hk H
          replace H := bifT H
          refine x_run tab hk (k := 1) (lv := []) (ks := [33, 34]) (e' := [(33, .bool true), (34, .pointer (some ⟨bx9, 0, none⟩))]) rfl trivial fun a hk => ?_
          refine x_op hk rfl ?_
          obtain ⟨t70, hc71, H⟩ := bindS H
          refine op_call hk ent_13 (vs := [.pointer (some ⟨bx9, 0, none⟩)]) rfl (net_Net_Len_calls bx9 A43 c44 t37.2.2 _ o62 1 f42 _ (f45.imp fun _ h_ => Own.rd h_) hc46   _ hc71) ?_
          rintro _ w72 ⟨o73, rfl, st74⟩
          replace f42 := f42.st st74 (by decide)
          replace f45 := f45.st st74 (by decide)
          replace hs := hs.loc0 st74 (by decide)
          have hk := hk.put 35 (.int .i64 t70) rfl
          refine x_run tab hk (k := 3) (lv := []) (ks := [0]) (e' := [(0, .bool (t70 == (0 : Int)))]) rfl trivial fun a hk => ?_
          refine wpListIn_nil ?_
          refine then_n ?_
          refine wpIn_ret ?_
          obtain rfl := Option.some.inj H
          exact x_retG hk (rs := [.tmp 0]) (vs := [.bool (t70 == (0 : Int))]) rfl ⟨rfl, trivial⟩ ⟨fun b_ => if b_ < w.heap.size then o b_ else (fun _ => 0) (o73 b_), rfl, hs.close0 o (fun _ => 0)⟩

/-! tidewrack/tidewracklaw01.Cut -/
theorem tidewracklaw01_Cut_calls (p0 : ByteArray) (p1 : Int) (w : World) (o : Nat → Nat)   (r : ByteArray) (H : tidewracklaw01_Cut p0 p1 = some r) :
    Calls Try.prog 8 #[.string p0, .int .i64 p1] w (Ret fun v_ w' => ∃ o' : Nat → Nat, v_ = .string r ∧ St [] w o w' o') := by
  refine x_enter (vs := [.string p0, .int .i64 p1]) Try.func8 rfl rfl rfl fun a hk => ?_
  obtain ⟨o0, hs, h0⟩ := St.start w o
  clear h0
  rw [tidewracklaw01_Cut] at H
  refine x_seq ?_
  refine wpIn_region_lit ?_
  refine x_run tab hk (k := 1) (lv := []) (ks := [0, 1]) (e' := [(0, .string p0), (1, .int .i64 p1)]) rfl trivial fun a hk => ?_
  refine wpListIn_nil ?_
  refine then_n ?_
  refine x_seq ?_
  refine x_seq ?_
  refine wpIn_region_lit ?_
  refine x_run tab hk (k := 4) (lv := []) (ks := [0, 1, 8]) (e' := [(0, .string p0), (1, .int .i64 p1), (8, .bool (decide (((p0).size : Int) > p1)))]) rfl trivial fun a hk => ?_
  refine wpListIn_nil ?_
  refine then_n ?_
  cases b1 : (decide (((p0).size : Int) > p1))
  · rw [b1] at hk H
    replace H := bifF H
    refine x_if hk (b := false) rfl ?_
    refine (show Code.wpIn _ _ _ _ _ _ _ from ?_)
    refine wpIn_skip ?_
    refine then_n ?_
    refine x_seq ?_
    refine wpIn_region_lit ?_
    refine x_run tab hk (k := 2) (lv := []) (ks := [4]) (e' := [(4, .string p0)]) rfl trivial fun a hk => ?_
    refine wpListIn_nil ?_
    refine then_n ?_
    refine wpIn_ret ?_
    obtain rfl := Option.some.inj H
    exact x_retG hk (rs := [.tmp 4]) (vs := [.string p0]) rfl ⟨rfl, trivial⟩ ⟨fun b_ => if b_ < w.heap.size then o b_ else (fun _ => 0) (o0 b_), rfl, hs.close0 o (fun _ => 0)⟩
  · rw [b1] at hk H
    replace H := bifT H
    refine x_if hk (b := true) rfl ?_
    refine (show Code.wpIn _ _ _ _ _ _ _ from ?_)
    refine x_seq ?_
    refine wpIn_region_lit ?_
    obtain ⟨q2, H⟩ := ifS H
    obtain ⟨q3, H⟩ := ifS H
    refine x_run tab hk (k := 4) (lv := []) (ks := [4]) (e' := [(4, .string (ByteArray.extract p0 0 (Int.toNat p1)))]) rfl ⟨q2, q3, trivial⟩ fun a hk => ?_
    refine wpListIn_nil ?_
    refine then_n ?_
    refine wpIn_ret ?_
    refine then_r ?_
    obtain rfl := Option.some.inj H
    exact x_retG hk (rs := [.tmp 4]) (vs := [.string (ByteArray.extract p0 0 (Int.toNat p1))]) rfl ⟨rfl, trivial⟩ ⟨fun b_ => if b_ < w.heap.size then o b_ else (fun _ => 0) (o0 b_), rfl, hs.close0 o (fun _ => 0)⟩

/-! tidewrack/tidewracklaw25.bit -/
theorem tidewracklaw25_bit_calls (p0 : Bool) (w : World) (o : Nat → Nat)   (r : Int) (H : tidewracklaw25_bit p0 = some r) :
    Calls Try.prog 10 #[.bool p0] w (Ret fun v_ w' => ∃ o' : Nat → Nat, v_ = .int .i64 r ∧ St [] w o w' o') := by
  refine x_enter (vs := [.bool p0]) Try.func10 rfl rfl rfl fun a hk => ?_
  obtain ⟨o0, hs, h0⟩ := St.start w o
  clear h0
  rw [tidewracklaw25_bit] at H
  refine x_seq ?_
  refine wpIn_region_lit ?_
  refine x_run tab hk (k := 1) (lv := []) (ks := [0]) (e' := [(0, .bool p0)]) rfl trivial fun a hk => ?_
  refine wpListIn_nil ?_
  refine then_n ?_
  refine x_seq ?_
  refine x_seq ?_
  refine wpIn_region_lit ?_
  refine x_run tab hk (k := 1) (lv := []) (ks := [3]) (e' := [(3, .bool p0)]) rfl trivial fun a hk => ?_
  refine wpListIn_nil ?_
  refine then_n ?_
  cases b1 : p0
  · rw [b1] at hk H
    replace H := bifF H
    refine x_if hk (b := false) rfl ?_
    refine (show Code.wpIn _ _ _ _ _ _ _ from ?_)
    refine wpIn_skip ?_
    refine then_n ?_
    refine x_seq ?_
    refine wpIn_region_lit ?_
    refine x_run tab hk (k := 1) (lv := []) (ks := [2]) (e' := [(2, .int .i64 0)]) rfl trivial fun a hk => ?_
    refine wpListIn_nil ?_
    refine then_n ?_
    refine wpIn_ret ?_
    obtain rfl := Option.some.inj H
    exact x_retG hk (rs := [.tmp 2]) (vs := [.int .i64 0]) rfl ⟨rfl, trivial⟩ ⟨fun b_ => if b_ < w.heap.size then o b_ else (fun _ => 0) (o0 b_), rfl, hs.close0 o (fun _ => 0)⟩
  · rw [b1] at hk H
    replace H := bifT H
    refine x_if hk (b := true) rfl ?_
    refine (show Code.wpIn _ _ _ _ _ _ _ from ?_)
    refine x_seq ?_
    refine wpIn_region_lit ?_
    refine x_run tab hk (k := 1) (lv := []) (ks := [2]) (e' := [(2, .int .i64 1)]) rfl trivial fun a hk => ?_
    refine wpListIn_nil ?_
    refine then_n ?_
    refine wpIn_ret ?_
    refine then_r ?_
    obtain rfl := Option.some.inj H
    exact x_retG hk (rs := [.tmp 2]) (vs := [.int .i64 1]) rfl ⟨rfl, trivial⟩ ⟨fun b_ => if b_ < w.heap.size then o b_ else (fun _ => 0) (o0 b_), rfl, hs.close0 o (fun _ => 0)⟩

/-! (*tidewrack/net.Net).For -/
theorem net_Net_For_calls (K : Nat) (bp0 : Nat) (Ap0_0 : Option Addr) (cp0_0 : Nat) (p0 : T55) (p1 : Int) (w : World) (o : Nat → Nat) (Lp0 : Nat) (hp0 : Ft (Bx bp0 56 [.int .i64 p0.most, .int .i64 p0.lost, .slice Ap0_0 (p0.l).length cp0_0]) w o Lp0) (Lp0_0 : Nat) (hp0_0 : Ft (RdC ET28 Ap0_0 p0.l) w o Lp0_0) (hcp0_0 : (p0.l).length ≤ cp0_0)  (R0 : Nat) (r : List Int) (H : net_Net_For K p0 p1 = some r) :
    Calls Try.prog 11 #[.pointer (some ⟨bp0, 0, none⟩), .int .i64 p1] w (Ret fun v_ w' => ∃ o' : Nat → Nat, ∃ A0 : Option Addr, ∃ c0 : Nat, v_ = .slice A0 (r).length c0 ∧ St [] w o w' o' ∧ Ft (Own (encInt .i64) 3 (.slice A0 (r).length c0) (r)) w' o' R0 ∧ (r).length ≤ c0) := by
  refine x_enter (vs := [.pointer (some ⟨bp0, 0, none⟩), .int .i64 p1]) Try.func11 rfl rfl rfl fun a hk => ?_
  obtain ⟨o0, hs, h0⟩ := St.start w o
  have f900000 := h0 _ _ hp0_0
  have f900019 := h0 _ _ hp0
  clear h0
  rw [net_Net_For] at H
  refine x_seq ?_
  refine wpIn_region_lit ?_
  refine x_run tab hk (k := 1) (lv := []) (ks := [0, 1]) (e' := [(0, .pointer (some ⟨bp0, 0, none⟩)), (1, .int .i64 p1)]) rfl trivial fun a hk => ?_
  refine wpListIn_nil ?_
  refine then_n ?_
  refine x_seq ?_
  refine wpIn_region_lit ?_
  refine x_run tab hk (k := 1) (lv := []) (ks := [0, 1, 5]) (e' := [(0, .pointer (some ⟨bp0, 0, none⟩)), (1, .int .i64 p1), (5, .slice none 0 0)]) rfl trivial fun a hk => ?_
  refine wpListIn_nil ?_
  refine then_n ?_
  refine x_mid (fun a_ w_ => ∃ o103 : Nat → Nat, ∃ A104 : Option Addr, ∃ c105 : Nat, ∃ l106 : List Int, Kn 28 a_ [(5, .slice A104 (l106).length c105)] ∧ St [] w (fun _ => 0) w_ o103 ∧ Ft (Own (encInt .i64) 3 (.slice A104 (l106).length c105) l106) w_ o103 10 ∧ Ft (RdC ET28 Ap0_0 p0.l) w_ o103 0 ∧ Ft (Bx bp0 56 [.int .i64 p0.most, .int .i64 p0.lost, .slice Ap0_0 (p0.l).length cp0_0]) w_ o103 0 ∧ (l106).length ≤ c105 ∧ net_Net_For_j1 l106 = some r) ?_ ?_
  rotate_left
  · rintro a w109 ⟨o103, A104, c105, l106, hk, hs, f107, f900000, f900019, hc108, H⟩
    rw [net_Net_For_j1] at H
    refine x_seq ?_
    refine wpIn_region_lit ?_
    refine x_run tab hk (k := 2) (lv := []) (ks := [4]) (e' := [(4, .slice A104 (l106).length c105)]) rfl trivial fun a hk => ?_
    refine wpListIn_nil ?_
    refine then_n ?_
    refine wpIn_ret ?_
    obtain rfl := Option.some.inj H
    exact x_retG hk (rs := [.tmp 4]) (vs := [.slice A104 (l106).length c105]) rfl ⟨rfl, trivial⟩ ⟨fun b_ => if b_ < w.heap.size then o b_ else (fun _ => R0) (o103 b_), A104, c105, rfl, hs.close0 o (fun _ => R0), hs.close_ft (o := o) (ρ := fun _ => R0) f107 (by decide) rfl, hc108⟩
  refine x_seq ?_
  refine wpIn_region_lit ?_
  refine x_run tab hk (k := 6) (lv := [.slice Ap0_0 (p0.l).length cp0_0]) (ks := [1, 5, 11, 12, 13]) (e' := [(1, .int .i64 p1), (5, .slice none 0 0), (11, .slice Ap0_0 (p0.l).length cp0_0), (12, .int .i64 ((p0.l).length : Int)), (13, .int .i64 0)]) rfl ⟨(load1 tab rfl ((Bx.cell f900019.now 2).trans rfl)), trivial⟩ fun a hk => ?_
  refine wpListIn_nil ?_
  refine then_n ?_
  refine wpIn_block ?_
  refine x_loop (fun j_ a_ w_ => ∃ o139 : Nat → Nat, ∃ A140 : Option Addr, ∃ c141 : Nat, ∃ l142 : List Int, ∃ x145 : Int, Kn 28 a_ [(1, .int .i64 p1), (5, .slice A140 (l142).length c141), (11, .slice Ap0_0 (p0.l).length cp0_0), (12, .int .i64 ((p0.l).length : Int)), (13, .int .i64 x145)] ∧ St [] w (fun _ => 0) w_ o139 ∧ Ft (Own (encInt .i64) 3 (.slice A140 (l142).length c141) l142) w_ o139 14 ∧ Ft (RdC ET28 Ap0_0 p0.l) w_ o139 0 ∧ Ft (Bx bp0 56 [.int .i64 p0.most, .int .i64 p0.lost, .slice Ap0_0 (p0.l).length cp0_0]) w_ o139 0 ∧ (l142).length ≤ c141 ∧ net_Net_For_l2 p0 p1 j_ l142 x145 = some r) (k := K) ⟨o0, none, 0, ([] : List Int), 0, (by exact Kn.pick (ks := [1, 5, 11, 12, 13]) hk rfl), hs, (Ft.of_all (fun _ => Own.nil _ _ _) _ _ _), f900000, f900019, (by simp), H⟩ (by rintro _ _ ⟨_, _, _, _, _, _, _, _, _, _, _, H_⟩; exact absurd (show (none : Option (List Int)) = some r from H_) (by simp)) ?_
  rintro k173 a w172 ⟨o139, A140, c141, l142, x145, hk, hs, f143, f900000, f900019, hc144, H⟩
  rw [net_Net_For_l2] at H
  obtain ⟨lp174, hlp175⟩ : ∃ lp_, lp_ = net_Net_For_l2 p0 p1 k173 := ⟨_, rfl⟩
  rw [← hlp175] at H
  refine x_seq ?_
  refine wpIn_region_lit ?_
  refine x_run tab hk (k := 1) (lv := []) (ks := [1, 5, 11, 12, 13, 14]) (e' := [(1, .int .i64 p1), (5, .slice A140 (l142).length c141), (11, .slice Ap0_0 (p0.l).length cp0_0), (12, .int .i64 ((p0.l).length : Int)), (13, .int .i64 x145), (14, .bool (decide (x145 < ((p0.l).length : Int))))]) rfl trivial fun a hk => ?_
  refine wpListIn_nil ?_
  refine then_n ?_
  refine x_seq ?_
  cases b176 : (decide (x145 < ((p0.l).length : Int)))
  · rw [b176] at hk H
    replace H := bifF H
    refine x_if hk (b := false) rfl ?_
    refine (show Code.wpIn _ _ _ _ _ _ _ from ?_)
    refine wpIn_exit ?_
    refine then_x ?_
    refine then_x ?_
    refine blk_x ?_
    refine then_n ?_
    exact ⟨(fun b_ => (fun l_ => if l_ = 14 then 10 else l_) (o139 b_)), A140, c141, l142, (by exact Kn.pick (ks := [5]) hk rfl), (hs.relab0 (fun l_ => if l_ = 14 then 10 else l_) rfl), (f143.relab (fun l_ => if l_ = 14 then 10 else l_) rfl), (f900000.relab (fun l_ => if l_ = 14 then 10 else l_) rfl), (f900019.relab (fun l_ => if l_ = 14 then 10 else l_) rfl), hc144, H⟩
  · rw [b176] at hk H
    replace H := bifT H
    refine x_if hk (b := true) rfl ?_
    refine (show Code.wpIn _ _ _ _ _ _ _ from ?_)
    refine wpIn_skip ?_
    refine then_n ?_
    refine x_seq ?_
    refine wpIn_block ?_
    refine x_seq ?_
    refine wpIn_region_lit ?_
    obtain ⟨q177, H⟩ := ifS H
    obtain ⟨ad178, hAad178⟩ := RdC.addr f900000.now q177
    have hk_C := hk
    have f143_C := f143
    have f900000_C := f900000
    have f900019_C := f900019
    subst hAad178
    have hk := hk_C
    clear hk_C
    have f143 := f143_C
    clear f143_C
    have f900000 := f900000_C
    clear f900000_C
    have f900019 := f900019_C
    clear f900019_C
    refine x_run tab hk (k := 3) (lv := [.agg #[.int .i64 ((rdD zT28 p0.l x145).From), .int .i64 ((rdD zT28 p0.l x145).To), .string ((rdD zT28 p0.l x145).Data)]]) (ks := [1, 5, 11, 12, 13, 15, 17]) (e' := [(1, .int .i64 p1), (5, .slice A140 (l142).length c141), (11, .slice (some ad178) (p0.l).length cp0_0), (12, .int .i64 ((p0.l).length : Int)), (13, .int .i64 x145), (15, .int .i64 x145), (17, .agg #[.int .i64 ((rdD zT28 p0.l x145).From), .int .i64 ((rdD zT28 p0.l x145).To), .string ((rdD zT28 p0.l x145).Data)])]) rfl ⟨q177, (load_elem (E := ET28) (i := x145) (dx := zT28) tab rfl rfl f900000.now q177), trivial⟩ fun a hk => ?_
    refine x_op hk rfl ?_
    refine op_alloc (o := o139) tab (t := 29) (cs := [.int .i64 0, .int .i64 0, .string (⟨#[]⟩ : ByteArray)]) rfl rfl 17 fun bx182 w179 o180 st181 f183 => ?_
    replace f143 := f143.st st181 (by decide)
    replace f900000 := f900000.st st181 (by decide)
    replace f900019 := f900019.st st181 (by decide)
    replace hs := hs.loc0 st181 (by decide)
    have hk := hk.put 7 (.pointer (some ⟨bx182, 0, none⟩)) rfl
    refine x_run tab hk (k := 1) (lv := []) (ks := [1, 5, 6, 7, 11, 12, 13, 17]) (e' := [(1, .int .i64 p1), (5, .slice A140 (l142).length c141), (6, .int .i64 x145), (7, .pointer (some ⟨bx182, 0, none⟩)), (11, .slice (some ad178) (p0.l).length cp0_0), (12, .int .i64 ((p0.l).length : Int)), (13, .int .i64 x145), (17, .agg #[.int .i64 ((rdD zT28 p0.l x145).From), .int .i64 ((rdD zT28 p0.l x145).To), .string ((rdD zT28 p0.l x145).Data)])]) rfl trivial fun a hk => ?_
    refine x_op hk rfl ?_
    refine op_store tab hk (t := 29) (v := .agg #[.int .i64 ((rdD zT28 p0.l x145).From), .int .i64 ((rdD zT28 p0.l x145).To), .string ((rdD zT28 p0.l x145).Data)]) (b := bx182) (k := 0) (cs' := [.int .i64 ((rdD zT28 p0.l x145).From), .int .i64 ((rdD zT28 p0.l x145).To), .string ((rdD zT28 p0.l x145).Data)]) rfl rfl rfl rfl rfl rfl f183 rfl rfl fun w184 o185 st186 f183_ => ?_
    replace f143 := f143.st st186 (by decide)
    replace f900000 := f900000.st st186 (by decide)
    replace f900019 := f900019.st st186 (by decide)
    replace hs := hs.loc0 st186 (by decide)
    replace f183 := f183_
    refine wpListIn_nil ?_
    refine then_n ?_
    refine x_seq ?_
    refine wpIn_region_lit ?_
    refine x_run tab hk (k := 4) (lv := [.int .i64 ((rdD zT28 p0.l x145).To)]) (ks := [1, 5, 6, 11, 12, 13, 21]) (e' := [(1, .int .i64 p1), (5, .slice A140 (l142).length c141), (6, .int .i64 x145), (11, .slice (some ad178) (p0.l).length cp0_0), (12, .int .i64 ((p0.l).length : Int)), (13, .int .i64 x145), (21, .bool (((rdD zT28 p0.l x145).To) == p1))]) rfl ⟨(load1 tab rfl ((Bx.cell f183.now 1).trans rfl)), trivial⟩ fun a hk => ?_
    refine wpListIn_nil ?_
    refine then_n ?_
    cases b187 : (((rdD zT28 p0.l x145).To) == p1)
    · rw [b187] at hk H
      replace H := bifF H
      refine x_if hk (b := false) rfl ?_
      refine (show Code.wpIn _ _ _ _ _ _ _ from ?_)
      refine wpIn_skip ?_
      refine blk_n ?_
      refine then_n ?_
      refine wpIn_region_lit ?_
      refine x_run tab hk (k := 2) (lv := []) (ks := [1, 5, 11, 12, 13]) (e' := [(1, .int .i64 p1), (5, .slice A140 (l142).length c141), (11, .slice (some ad178) (p0.l).length cp0_0), (12, .int .i64 ((p0.l).length : Int)), (13, .int .i64 (IntKind.wrap .i64 (x145 + 1)))]) rfl trivial fun a hk => ?_
      refine wpListIn_nil ?_
      refine then_n ?_
      exact ⟨k173, Nat.le_refl _, o185, A140, c141, l142, (IntKind.wrap .i64 (x145 + 1)), (by exact Kn.pick (ks := [1, 5, 11, 12, 13]) hk rfl), hs, f143, f900000, f900019, hc144, (hlp175 ▸ H)⟩
    · rw [b187] at hk H
      replace H := bifT H
      refine x_if hk (b := true) rfl ?_
      refine (show Code.wpIn _ _ _ _ _ _ _ from ?_)
      refine wpIn_region_lit ?_
      refine x_run tab hk (k := 2) (lv := []) (ks := [1, 11, 12, 13, 22, 23]) (e' := [(1, .int .i64 p1), (11, .slice (some ad178) (p0.l).length cp0_0), (12, .int .i64 ((p0.l).length : Int)), (13, .int .i64 x145), (22, .slice A140 (l142).length c141), (23, .int .i64 x145)]) rfl trivial fun a hk => ?_
      refine x_op hk rfl ?_
      refine op_slice (o := o185) tab hk (vs := [.int .i64 x145]) (cs := [.int .i64 x145]) rfl rfl rfl rfl rfl rfl rfl rfl rfl 18 fun bx191 w188 o189 st190 f192 => ?_
      replace f143 := f143.st st190 (by decide)
      replace f900000 := f900000.st st190 (by decide)
      replace f900019 := f900019.st st190 (by decide)
      replace hs := hs.loc0 st190 (by decide)
      have f193 : Ft (Own (encInt .i64) 3 (.slice (some ⟨bx191, 0, none⟩) (([x145] : List Int)).length 1) ([x145] : List Int)) w188 o189 18 := f192.imp fun _ h_ => Own.of_box h_ rfl (by simp)
      have hk := hk.put 24 (.slice (some ⟨bx191, 0, none⟩) (([x145] : List Int)).length 1) rfl
      refine x_op hk rfl ?_
      obtain ⟨q197, H⟩ := ifS H
      refine op_append (o := o189) (E := (encInt .i64)) (xs := l142) (ys := ([x145] : List Int)) tab hk rfl rfl rfl rfl rfl rfl rfl f143 (Own.rd f193.now) q197 fun A198 c199 w194 o195 st196 f200 hc201 => ?_
      replace f193 := f193.st st196 (by decide)
      replace f900000 := f900000.st st196 (by decide)
      replace f900019 := f900019.st st196 (by decide)
      replace hs := hs.loc0 st196 (by decide)
      have hk := hk.put 25 (.slice A198 ((l142 ++ ([x145] : List Int))).length c199) rfl
      refine x_run tab hk (k := 1) (lv := []) (ks := [1, 5, 11, 12, 13]) (e' := [(1, .int .i64 p1), (5, .slice A198 ((l142 ++ ([x145] : List Int))).length c199), (11, .slice (some ad178) (p0.l).length cp0_0), (12, .int .i64 ((p0.l).length : Int)), (13, .int .i64 x145)]) rfl trivial fun a hk => ?_
      refine wpListIn_nil ?_
      refine blk_n ?_
      refine then_n ?_
      refine wpIn_region_lit ?_
      refine x_run tab hk (k := 2) (lv := []) (ks := [1, 5, 11, 12, 13]) (e' := [(1, .int .i64 p1), (5, .slice A198 ((l142 ++ ([x145] : List Int))).length c199), (11, .slice (some ad178) (p0.l).length cp0_0), (12, .int .i64 ((p0.l).length : Int)), (13, .int .i64 (IntKind.wrap .i64 (x145 + 1)))]) rfl trivial fun a hk => ?_
      refine wpListIn_nil ?_
      refine then_n ?_
      exact ⟨k173, Nat.le_refl _, o195, A198, c199, (l142 ++ ([x145] : List Int)), (IntKind.wrap .i64 (x145 + 1)), (by exact Kn.pick (ks := [1, 5, 11, 12, 13]) hk rfl), hs, f200, f900000, f900019, hc201, (hlp175 ▸ H)⟩

/-! tidewrack/tidewracklaw25.NetOrder -/
set_option maxHeartbeats 4000000 in
theorem tidewracklaw25_NetOrder_calls (K : Nat) (Ap0 : Option Addr) (cp0 : Nat) (p0 : List ByteArray) (p1 : Int) (w : World) (o : Nat → Nat) (Lp0 : Nat) (hp0 : Ft (RdC encStr Ap0 p0) w o Lp0) (hcp0 : (p0).length ≤ cp0)  (r : Bool) (H : tidewracklaw25_NetOrder K p0 p1 = some r) :
    Calls Try.prog 3 #[.slice Ap0 (p0).length cp0, .int .i64 p1] w (Ret fun v_ w' => ∃ o' : Nat → Nat, v_ = .bool r ∧ St [] w o w' o') := by
  refine x_enter (vs := [.slice Ap0 (p0).length cp0, .int .i64 p1]) Try.func3 rfl rfl rfl fun a hk => ?_
  obtain ⟨o0, hs, h0⟩ := St.start w o
  have f900000 := h0 _ _ hp0
  clear h0
  rw [tidewracklaw25_NetOrder] at H
  refine x_seq ?_
  refine wpIn_region_lit ?_
  refine x_run tab hk (k := 1) (lv := []) (ks := [0, 1]) (e' := [(0, .slice Ap0 (p0).length cp0), (1, .int .i64 p1)]) rfl trivial fun a hk => ?_
  refine wpListIn_nil ?_
  refine then_n ?_
  refine x_seq ?_
  refine x_seq ?_
  refine wpIn_region_lit ?_
  refine x_op hk rfl ?_
  obtain ⟨t4, hc5, H⟩ := bindS H
  refine op_call hk ent_6 (vs := []) rfl (tidewracklaw25_awake_calls K  _ o0    _ hc5) ?_
  rintro _ w6 ⟨o7, rfl, st8⟩
  replace f900000 := f900000.st st8 (by decide)
  replace hs := hs.loc0 st8 (by decide)
  have hk := hk.put 14 (.bool t4) rfl
  refine x_run tab hk (k := 1) (lv := []) (ks := [0, 1, 15]) (e' := [(0, .slice Ap0 (p0).length cp0), (1, .int .i64 p1), (15, .bool (!t4))]) rfl trivial fun a hk => ?_
  refine wpListIn_nil ?_
  refine then_n ?_
  cases b9 : (!t4)
  · rw [b9] at hk H
    replace H := bifF H
    refine x_if hk (b := false) rfl ?_
    refine (show Code.wpIn _ _ _ _ _ _ _ from ?_)
    refine wpIn_skip ?_
    refine then_n ?_
    refine x_seq ?_
    refine wpIn_region_lit ?_
    refine x_run tab hk (k := 4) (lv := []) (ks := [0, 1]) (e' := [(0, .slice Ap0 (p0).length cp0), (1, .int .i64 (IntKind.wrap .i64 (1 + (bits .and .i64 p1 31))))]) rfl trivial fun a hk => ?_
    refine wpListIn_nil ?_
    refine then_n ?_
    refine x_seq ?_
    refine wpIn_region_lit ?_
    refine x_run tab hk (k := 1) (lv := []) (ks := [0, 1, 19]) (e' := [(0, .slice Ap0 (p0).length cp0), (1, .int .i64 (IntKind.wrap .i64 (1 + (bits .and .i64 p1 31)))), (19, .int .i64 (IntKind.wrap .i64 (1 + (bits .and .i64 p1 31))))]) rfl trivial fun a hk => ?_
    refine x_op hk rfl ?_
    obtain ⟨t13, hc14, H⟩ := bindS H
    refine op_call hk ent_7 (vs := [.int .i64 (IntKind.wrap .i64 (1 + (bits .and .i64 p1 31)))]) rfl (net_New_calls (IntKind.wrap .i64 (1 + (bits .and .i64 p1 31))) _ o7  1 2  _ hc14) ?_
    rintro _ w15 ⟨o16, bx18, A20, c21, rfl, st17, f19, f22, hc23⟩
    replace f900000 := f900000.st st17 (by decide)
    replace hs := hs.loc0 st17 (by decide)
    have hk := hk.put 20 (.pointer (some ⟨bx18, 0, none⟩)) rfl
    refine x_run tab hk (k := 1) (lv := []) (ks := [0, 1, 5]) (e' := [(0, .slice Ap0 (p0).length cp0), (1, .int .i64 (IntKind.wrap .i64 (1 + (bits .and .i64 p1 31)))), (5, .pointer (some ⟨bx18, 0, none⟩))]) rfl trivial fun a hk => ?_
    refine wpListIn_nil ?_
    refine then_n ?_
    refine x_seq ?_
    refine x_seq ?_
    refine wpIn_region_lit ?_
    refine x_run tab hk (k := 2) (lv := []) (ks := [0, 1, 5, 22]) (e' := [(0, .slice Ap0 (p0).length cp0), (1, .int .i64 (IntKind.wrap .i64 (1 + (bits .and .i64 p1 31)))), (5, .pointer (some ⟨bx18, 0, none⟩)), (22, .bool false)]) rfl trivial fun a hk => ?_
    refine wpListIn_nil ?_
    refine then_n ?_
    refine x_if hk (b := false) rfl ?_
    refine (show Code.wpIn _ _ _ _ _ _ _ from ?_)
    refine wpIn_skip ?_
    refine then_n ?_
    refine x_seq ?_
    refine wpIn_region_lit ?_
    refine x_run tab hk (k := 1) (lv := []) (ks := [0, 1, 5, 6]) (e' := [(0, .slice Ap0 (p0).length cp0), (1, .int .i64 (IntKind.wrap .i64 (1 + (bits .and .i64 p1 31)))), (5, .pointer (some ⟨bx18, 0, none⟩)), (6, .slice none 0 0)]) rfl trivial fun a hk => ?_
    refine wpListIn_nil ?_
    refine then_n ?_
    refine x_mid (fun a_ w_ => ∃ o281 : Nat → Nat, ∃ x282 : Int, ∃ x283 : Int, ∃ A284 : Option Addr, ∃ c285 : Nat, ∃ l286 : List T28, ∃ A289 : Option Addr, ∃ c290 : Nat, ∃ l291 : List ByteArray, Kn 106 a_ [(0, .slice Ap0 (p0).length cp0), (5, .pointer (some ⟨bx18, 0, none⟩)), (6, .slice A289 (l291).length c290)] ∧ St [] w (fun _ => 0) w_ o281 ∧ Ft (Bx bx18 56 [.int .i64 x282, .int .i64 x283, .slice A284 (l286).length c285]) w_ o281 33 ∧ Ft (Own ET28 29 (.slice A284 (l286).length c285) l286) w_ o281 32 ∧ Ft (Own encStr 9 (.slice A289 (l291).length c290) l291) w_ o281 34 ∧ Ft (RdC encStr Ap0 p0) w_ o281 0 ∧ (l286).length ≤ c285 ∧ (l291).length ≤ c290 ∧ tidewracklaw25_NetOrder_j1 K p0 x282 x283 l286 l291 = some r) ?_ ?_
    rotate_left
    · rintro a w294 ⟨o281, x282, x283, A284, c285, l286, A289, c290, l291, hk, hs, f19, f287, f292, f900000, hc288, hc293, H⟩
      rw [tidewracklaw25_NetOrder_j1] at H
      refine x_seq ?_
      refine x_seq ?_
      refine wpIn_region_lit ?_
      refine x_run tab hk (k := 1) (lv := []) (ks := [0, 5, 6, 62]) (e' := [(0, .slice Ap0 (p0).length cp0), (5, .pointer (some ⟨bx18, 0, none⟩)), (6, .slice A289 (l291).length c290), (62, .pointer (some ⟨bx18, 0, none⟩))]) rfl trivial fun a hk => ?_
      refine x_op hk rfl ?_
      obtain ⟨t298, hc299, H⟩ := bindS H
      refine op_call hk ent_11 (vs := [.pointer (some ⟨bx18, 0, none⟩), .int .i64 0]) rfl (net_Net_For_calls K bx18 A284 c285 (⟨x282, x283, l286⟩ : T55) 0 _ o281 33 f19 _ (f287.imp fun _ h_ => Own.rd h_) hc288 35  _ hc299) ?_
      rintro _ w300 ⟨o301, A303, c304, rfl, st302, f305, hc306⟩
      replace f19 := f19.st st302 (by decide)
      replace f287 := f287.st st302 (by decide)
      replace f292 := f292.st st302 (by decide)
      replace f900000 := f900000.st st302 (by decide)
      replace hs := hs.loc0 st302 (by decide)
      have hk := hk.put 63 (.slice A303 (t298).length c304) rfl
      refine x_run tab hk (k := 2) (lv := []) (ks := [0, 5, 6, 64, 65]) (e' := [(0, .slice Ap0 (p0).length cp0), (5, .pointer (some ⟨bx18, 0, none⟩)), (6, .slice A289 (l291).length c290), (64, .int .i64 ((t298).length : Int)), (65, .pointer (some ⟨bx18, 0, none⟩))]) rfl trivial fun a hk => ?_
      refine x_op hk rfl ?_
      obtain ⟨t310, hc311, H⟩ := bindS H
      refine op_call hk ent_11 (vs := [.pointer (some ⟨bx18, 0, none⟩), .int .i64 1]) rfl (net_Net_For_calls K bx18 A284 c285 (⟨x282, x283, l286⟩ : T55) 1 _ o301 33 f19 _ (f287.imp fun _ h_ => Own.rd h_) hc288 36  _ hc311) ?_
      rintro _ w312 ⟨o313, A315, c316, rfl, st314, f317, hc318⟩
      replace f19 := f19.st st314 (by decide)
      replace f287 := f287.st st314 (by decide)
      replace f292 := f292.st st314 (by decide)
      replace f900000 := f900000.st st314 (by decide)
      replace hs := hs.loc0 st314 (by decide)
      have hk := hk.put 66 (.slice A315 (t310).length c316) rfl
      refine x_run tab hk (k := 5) (lv := []) (ks := [0, 5, 6, 71]) (e' := [(0, .slice Ap0 (p0).length cp0), (5, .pointer (some ⟨bx18, 0, none⟩)), (6, .slice A289 (l291).length c290), (71, .bool ((IntKind.wrap .i64 (((t298).length : Int) + ((t310).length : Int))) != ((l291).length : Int)))]) rfl trivial fun a hk => ?_
      refine wpListIn_nil ?_
      refine then_n ?_
      cases b319 : ((IntKind.wrap .i64 (((t298).length : Int) + ((t310).length : Int))) != ((l291).length : Int))
      · rw [b319] at hk H
        replace H := bifF H
        refine x_if hk (b := false) rfl ?_
        refine (show Code.wpIn _ _ _ _ _ _ _ from ?_)
        refine wpIn_skip ?_
        refine then_n ?_
        refine x_mid (fun a_ w_ => ∃ o427 : Nat → Nat, ∃ x428 : Int, ∃ x429 : Int, ∃ A430 : Option Addr, ∃ c431 : Nat, ∃ l432 : List T28, Kn 106 a_ [(0, .slice Ap0 (p0).length cp0), (5, .pointer (some ⟨bx18, 0, none⟩)), (6, .slice A289 (l291).length c290)] ∧ St [] w (fun _ => 0) w_ o427 ∧ Ft (Bx bx18 56 [.int .i64 x428, .int .i64 x429, .slice A430 (l432).length c431]) w_ o427 48 ∧ Ft (Own encStr 9 (.slice A289 (l291).length c290) l291) w_ o427 49 ∧ Ft (Own ET28 29 (.slice A430 (l432).length c431) l432) w_ o427 47 ∧ Ft (RdC encStr Ap0 p0) w_ o427 0 ∧ (l432).length ≤ c431 ∧ tidewracklaw25_NetOrder_j2 p0 l291 x428 x429 l432 = some r) ?_ ?_
        rotate_left
        · rintro a w435 ⟨o427, x428, x429, A430, c431, l432, hk, hs, f19, f292, f433, f900000, hc434, H⟩
          rw [tidewracklaw25_NetOrder_j2] at H
          refine x_seq ?_
          refine wpIn_region_lit ?_
          refine x_run tab hk (k := 1) (lv := []) (ks := [0, 5, 6, 92]) (e' := [(0, .slice Ap0 (p0).length cp0), (5, .pointer (some ⟨bx18, 0, none⟩)), (6, .slice A289 (l291).length c290), (92, .pointer (some ⟨bx18, 0, none⟩))]) rfl trivial fun a hk => ?_
          refine x_op hk rfl ?_
          obtain ⟨t439, hc440, H⟩ := bindS H
          refine op_call hk ent_13 (vs := [.pointer (some ⟨bx18, 0, none⟩)]) rfl (net_Net_Len_calls bx18 A430 c431 (⟨x428, x429, l432⟩ : T55) _ o427 48 f19 _ (f433.imp fun _ h_ => Own.rd h_) hc434   _ hc440) ?_
          rintro _ w441 ⟨o442, rfl, st443⟩
          replace f19 := f19.st st443 (by decide)
          replace f292 := f292.st st443 (by decide)
          replace f433 := f433.st st443 (by decide)
          replace f900000 := f900000.st st443 (by decide)
          replace hs := hs.loc0 st443 (by decide)
          have hk := hk.put 93 (.int .i64 t439) rfl
          refine x_run tab hk (k := 2) (lv := []) (ks := [0, 5, 6, 95]) (e' := [(0, .slice Ap0 (p0).length cp0), (5, .pointer (some ⟨bx18, 0, none⟩)), (6, .slice A289 (l291).length c290), (95, .bool (t439 == (0 : Int)))]) rfl trivial fun a hk => ?_
          cases b444 : (t439 == (0 : Int))
          · rw [b444] at hk H
            replace H := bifF H
            refine x_run tab hk (k := 10) (lv := []) (ks := [105]) (e' := [(105, .bool false)]) rfl trivial fun a hk => ?_
            refine x_run tab hk (k := 1) (lv := []) (ks := [4]) (e' := [(4, .bool false)]) rfl trivial fun a hk => ?_
            refine wpListIn_nil ?_
            refine then_n ?_
            refine wpIn_ret ?_
            obtain rfl := Option.some.inj H
            exact x_retG hk (rs := [.tmp 4]) (vs := [.bool false]) rfl ⟨rfl, trivial⟩ ⟨fun b_ => if b_ < w.heap.size then o b_ else (fun _ => 0) (o442 b_), rfl, hs.close0 o (fun _ => 0)⟩
          · rw [b444] at hk H
            replace H := bifT H
            refine x_run tab hk (k := 1) (lv := []) (ks := [0, 6, 95, 96]) (e' := [(0, .slice Ap0 (p0).length cp0), (6, .slice A289 (l291).length c290), (95, .bool true), (96, .pointer (some ⟨bx18, 0, none⟩))]) rfl trivial fun a hk => ?_
            refine x_op hk rfl ?_
            obtain ⟨t448, hc449, H⟩ := bindS H
            refine op_call hk ent_14 (vs := [.pointer (some ⟨bx18, 0, none⟩)]) rfl (net_Net_Lost_calls bx18 A430 c431 (⟨x428, x429, l432⟩ : T55) _ o442 48 f19 _ (f433.imp fun _ h_ => Own.rd h_) hc434   _ hc449) ?_
            rintro _ w450 ⟨o451, rfl, st452⟩
            replace f19 := f19.st st452 (by decide)
            replace f292 := f292.st st452 (by decide)
            replace f433 := f433.st st452 (by decide)
            replace f900000 := f900000.st st452 (by decide)
            replace hs := hs.loc0 st452 (by decide)
            have hk := hk.put 97 (.int .i64 t448) rfl
            refine x_run tab hk (k := 9) (lv := []) (ks := [4]) (e' := [(4, .bool (t448 == (IntKind.wrap .i64 ((mnI ((p0).length : Int) 40) - ((l291).length : Int)))))]) rfl trivial fun a hk => ?_
            refine wpListIn_nil ?_
            refine then_n ?_
            refine wpIn_ret ?_
            obtain rfl := Option.some.inj H
            exact x_retG hk (rs := [.tmp 4]) (vs := [.bool (t448 == (IntKind.wrap .i64 ((mnI ((p0).length : Int) 40) - ((l291).length : Int))))]) rfl ⟨rfl, trivial⟩ ⟨fun b_ => if b_ < w.heap.size then o b_ else (fun _ => 0) (o451 b_), rfl, hs.close0 o (fun _ => 0)⟩
        refine x_seq ?_
        refine wpIn_region_lit ?_
        refine x_run tab hk (k := 3) (lv := []) (ks := [0, 5, 6, 72, 73, 74]) (e' := [(0, .slice Ap0 (p0).length cp0), (5, .pointer (some ⟨bx18, 0, none⟩)), (6, .slice A289 (l291).length c290), (72, .slice A289 (l291).length c290), (73, .int .i64 ((l291).length : Int)), (74, .int .i64 0)]) rfl trivial fun a hk => ?_
        refine wpListIn_nil ?_
        refine then_n ?_
        refine wpIn_block ?_
        refine x_loop (fun j_ a_ w_ => ∃ o483 : Nat → Nat, ∃ x484 : Int, ∃ x485 : Int, ∃ A486 : Option Addr, ∃ c487 : Nat, ∃ l488 : List T28, ∃ x491 : Int, Kn 106 a_ [(0, .slice Ap0 (p0).length cp0), (5, .pointer (some ⟨bx18, 0, none⟩)), (6, .slice A289 (l291).length c290), (72, .slice A289 (l291).length c290), (73, .int .i64 ((l291).length : Int)), (74, .int .i64 x491)] ∧ St [] w (fun _ => 0) w_ o483 ∧ Ft (Bx bx18 56 [.int .i64 x484, .int .i64 x485, .slice A486 (l488).length c487]) w_ o483 56 ∧ Ft (Own encStr 9 (.slice A289 (l291).length c290) l291) w_ o483 57 ∧ Ft (Own ET28 29 (.slice A486 (l488).length c487) l488) w_ o483 55 ∧ Ft (RdC encStr Ap0 p0) w_ o483 0 ∧ (l488).length ≤ c487 ∧ tidewracklaw25_NetOrder_l3 p0 l291 j_ x484 x485 l488 x491 = some r) (k := K) ⟨(fun b_ => (fun l_ => if l_ = 32 then 55 else if l_ = 33 then 56 else if l_ = 34 then 57 else l_) (o313 b_)), x282, x283, A284, c285, l286, 0, (by exact Kn.pick (ks := [0, 5, 6, 72, 73, 74]) hk rfl), (hs.relab0 (fun l_ => if l_ = 32 then 55 else if l_ = 33 then 56 else if l_ = 34 then 57 else l_) rfl), (f19.relab (fun l_ => if l_ = 32 then 55 else if l_ = 33 then 56 else if l_ = 34 then 57 else l_) rfl), (f292.relab (fun l_ => if l_ = 32 then 55 else if l_ = 33 then 56 else if l_ = 34 then 57 else l_) rfl), (f287.relab (fun l_ => if l_ = 32 then 55 else if l_ = 33 then 56 else if l_ = 34 then 57 else l_) rfl), (f900000.relab (fun l_ => if l_ = 32 then 55 else if l_ = 33 then 56 else if l_ = 34 then 57 else l_) rfl), hc288, H⟩ (by rintro _ _ ⟨_, _, _, _, _, _, _, _, _, _, _, _, _, _, H_⟩; exact absurd (show (none : Option Bool) = some r from H_) (by simp)) ?_
        rintro k519 a w518 ⟨o483, x484, x485, A486, c487, l488, x491, hk, hs, f19, f292, f489, f900000, hc490, H⟩
        rw [tidewracklaw25_NetOrder_l3] at H
        obtain ⟨lp520, hlp521⟩ : ∃ lp_, lp_ = tidewracklaw25_NetOrder_l3 p0 l291 k519 := ⟨_, rfl⟩
        rw [← hlp521] at H
        refine x_seq ?_
        refine wpIn_region_lit ?_
        refine x_run tab hk (k := 1) (lv := []) (ks := [0, 5, 6, 72, 73, 74, 75]) (e' := [(0, .slice Ap0 (p0).length cp0), (5, .pointer (some ⟨bx18, 0, none⟩)), (6, .slice A289 (l291).length c290), (72, .slice A289 (l291).length c290), (73, .int .i64 ((l291).length : Int)), (74, .int .i64 x491), (75, .bool (decide (x491 < ((l291).length : Int))))]) rfl trivial fun a hk => ?_
        refine wpListIn_nil ?_
        refine then_n ?_
        refine x_seq ?_
        cases b522 : (decide (x491 < ((l291).length : Int)))
        · rw [b522] at hk H
          replace H := bifF H
          refine x_if hk (b := false) rfl ?_
          refine (show Code.wpIn _ _ _ _ _ _ _ from ?_)
          refine wpIn_exit ?_
          refine then_x ?_
          refine then_x ?_
          refine blk_x ?_
          refine then_n ?_
          exact ⟨(fun b_ => (fun l_ => if l_ = 55 then 47 else if l_ = 56 then 48 else if l_ = 57 then 49 else l_) (o483 b_)), x484, x485, A486, c487, l488, (by exact Kn.pick (ks := [0, 5, 6]) hk rfl), (hs.relab0 (fun l_ => if l_ = 55 then 47 else if l_ = 56 then 48 else if l_ = 57 then 49 else l_) rfl), (f19.relab (fun l_ => if l_ = 55 then 47 else if l_ = 56 then 48 else if l_ = 57 then 49 else l_) rfl), (f292.relab (fun l_ => if l_ = 55 then 47 else if l_ = 56 then 48 else if l_ = 57 then 49 else l_) rfl), (f489.relab (fun l_ => if l_ = 55 then 47 else if l_ = 56 then 48 else if l_ = 57 then 49 else l_) rfl), (f900000.relab (fun l_ => if l_ = 55 then 47 else if l_ = 56 then 48 else if l_ = 57 then 49 else l_) rfl), hc490, H⟩
        · rw [b522] at hk H
          replace H := bifT H
          refine x_if hk (b := true) rfl ?_
          refine (show Code.wpIn _ _ _ _ _ _ _ from ?_)
          refine wpIn_skip ?_
          refine then_n ?_
          refine x_seq ?_
          refine wpIn_block ?_
          refine x_seq ?_
          refine wpIn_region_lit ?_
          obtain ⟨q523, H⟩ := ifS H
          obtain ⟨ad524, hAad524⟩ := RdC.addr (Own.rd f292.now) q523
          have hk_C := hk
          have f19_C := f19
          have f292_C := f292
          have f489_C := f489
          have f900000_C := f900000
          subst hAad524
          have hk := hk_C
          clear hk_C
          have f19 := f19_C
          clear f19_C
          have f292 := f292_C
          clear f292_C
          have f489 := f489_C
          clear f489_C
          have f900000 := f900000_C
          clear f900000_C
          refine x_run tab hk (k := 3) (lv := [.string (rdD (⟨#[]⟩ : ByteArray) l291 x491)]) (ks := [0, 5, 6, 11, 72, 73, 74]) (e' := [(0, .slice Ap0 (p0).length cp0), (5, .pointer (some ⟨bx18, 0, none⟩)), (6, .slice (some ad524) (l291).length c290), (11, .string (rdD (⟨#[]⟩ : ByteArray) l291 x491)), (72, .slice (some ad524) (l291).length c290), (73, .int .i64 ((l291).length : Int)), (74, .int .i64 x491)]) rfl ⟨q523, (load1 tab rfl (RdC.at0 (E := encStr) (d := (⟨#[]⟩ : ByteArray)) (i := x491) (Own.rd f292.now) q523 rfl)), trivial⟩ fun a hk => ?_
          refine wpListIn_nil ?_
          refine then_n ?_
          refine x_seq ?_
          refine wpIn_region_lit ?_
          refine x_run tab hk (k := 1) (lv := []) (ks := [0, 5, 6, 11, 72, 73, 74, 79]) (e' := [(0, .slice Ap0 (p0).length cp0), (5, .pointer (some ⟨bx18, 0, none⟩)), (6, .slice (some ad524) (l291).length c290), (11, .string (rdD (⟨#[]⟩ : ByteArray) l291 x491)), (72, .slice (some ad524) (l291).length c290), (73, .int .i64 ((l291).length : Int)), (74, .int .i64 x491), (79, .pointer (some ⟨bx18, 0, none⟩))]) rfl trivial fun a hk => ?_
          refine x_op hk rfl ?_
          obtain ⟨t528, hc529, H⟩ := bindS H
          refine op_call hk ent_12 (vs := [.pointer (some ⟨bx18, 0, none⟩), .int .i64 0]) rfl (net_Net_Take_calls bx18 A486 c487 (⟨x484, x485, l488⟩ : T55) 0 _ o483 56 f19 55 f489 hc490 (by decide)   _ hc529) ?_
          rintro _ w530 ⟨o531, A534, c535, rfl, st532, f533, f536, hc537⟩
          replace f292 := f292.st st532 (by decide)
          replace f900000 := f900000.st st532 (by decide)
          replace hs := hs.loc0 st532 (by decide)
          have hk := hk.put 80 (.tuple #[.agg #[.int .i64 t528.1.From, .int .i64 t528.1.To, .string t528.1.Data], .bool t528.2.1]) rfl
          refine x_run tab hk (k := 3) (lv := []) (ks := [0, 5, 6, 11, 72, 73, 74, 81, 82]) (e' := [(0, .slice Ap0 (p0).length cp0), (5, .pointer (some ⟨bx18, 0, none⟩)), (6, .slice (some ad524) (l291).length c290), (11, .string (rdD (⟨#[]⟩ : ByteArray) l291 x491)), (72, .slice (some ad524) (l291).length c290), (73, .int .i64 ((l291).length : Int)), (74, .int .i64 x491), (81, .agg #[.int .i64 t528.1.From, .int .i64 t528.1.To, .string t528.1.Data]), (82, .bool t528.2.1)]) rfl trivial fun a hk => ?_
          refine x_op hk rfl ?_
          refine op_alloc (o := o531) tab (t := 29) (cs := [.int .i64 0, .int .i64 0, .string (⟨#[]⟩ : ByteArray)]) rfl rfl 59 fun bx541 w538 o539 st540 f542 => ?_
          replace f292 := f292.st st540 (by decide)
          replace f533 := f533.st st540 (by decide)
          replace f536 := f536.st st540 (by decide)
          replace f900000 := f900000.st st540 (by decide)
          replace hs := hs.loc0 st540 (by decide)
          have hk := hk.put 12 (.pointer (some ⟨bx541, 0, none⟩)) rfl
          refine x_op hk rfl ?_
          refine op_store tab hk (t := 29) (v := .agg #[.int .i64 t528.1.From, .int .i64 t528.1.To, .string t528.1.Data]) (b := bx541) (k := 0) (cs' := [.int .i64 t528.1.From, .int .i64 t528.1.To, .string t528.1.Data]) rfl rfl rfl rfl rfl rfl f542 rfl rfl fun w543 o544 st545 f542_ => ?_
          replace f292 := f292.st st545 (by decide)
          replace f533 := f533.st st545 (by decide)
          replace f536 := f536.st st545 (by decide)
          replace f900000 := f900000.st st545 (by decide)
          replace hs := hs.loc0 st545 (by decide)
          replace f542 := f542_
          refine x_run tab hk (k := 1) (lv := []) (ks := [0, 5, 6, 11, 12, 13, 72, 73, 74]) (e' := [(0, .slice Ap0 (p0).length cp0), (5, .pointer (some ⟨bx18, 0, none⟩)), (6, .slice (some ad524) (l291).length c290), (11, .string (rdD (⟨#[]⟩ : ByteArray) l291 x491)), (12, .pointer (some ⟨bx541, 0, none⟩)), (13, .bool t528.2.1), (72, .slice (some ad524) (l291).length c290), (73, .int .i64 ((l291).length : Int)), (74, .int .i64 x491)]) rfl trivial fun a hk => ?_
          refine wpListIn_nil ?_
          refine then_n ?_
          refine x_seq ?_
          refine wpIn_region_lit ?_
          refine x_run tab hk (k := 3) (lv := []) (ks := [0, 5, 6, 11, 12, 72, 73, 74, 85]) (e' := [(0, .slice Ap0 (p0).length cp0), (5, .pointer (some ⟨bx18, 0, none⟩)), (6, .slice (some ad524) (l291).length c290), (11, .string (rdD (⟨#[]⟩ : ByteArray) l291 x491)), (12, .pointer (some ⟨bx541, 0, none⟩)), (72, .slice (some ad524) (l291).length c290), (73, .int .i64 ((l291).length : Int)), (74, .int .i64 x491), (85, .bool (!t528.2.1))]) rfl trivial fun a hk => ?_
          cases b546 : (!t528.2.1)
          · rw [b546] at hk H
            replace H := bifF H
            refine x_run tab hk (k := 5) (lv := [.string t528.1.Data]) (ks := [0, 5, 6, 72, 73, 74, 90]) (e' := [(0, .slice Ap0 (p0).length cp0), (5, .pointer (some ⟨bx18, 0, none⟩)), (6, .slice (some ad524) (l291).length c290), (72, .slice (some ad524) (l291).length c290), (73, .int .i64 ((l291).length : Int)), (74, .int .i64 x491), (90, .bool (!(ByteArray.toList t528.1.Data == ByteArray.toList (rdD (⟨#[]⟩ : ByteArray) l291 x491))))]) rfl ⟨(load1 tab rfl ((Bx.cell f542.now 2).trans rfl)), trivial⟩ fun a hk => ?_
            refine wpListIn_nil ?_
            refine then_n ?_
            cases b547 : (!(ByteArray.toList t528.1.Data == ByteArray.toList (rdD (⟨#[]⟩ : ByteArray) l291 x491)))
            · rw [b547] at hk H
              replace H := bifF H
              refine x_if hk (b := false) rfl ?_
              refine (show Code.wpIn _ _ _ _ _ _ _ from ?_)
              refine wpIn_skip ?_
              refine blk_n ?_
              refine then_n ?_
              refine wpIn_region_lit ?_
              refine x_run tab hk (k := 2) (lv := []) (ks := [0, 5, 6, 72, 73, 74]) (e' := [(0, .slice Ap0 (p0).length cp0), (5, .pointer (some ⟨bx18, 0, none⟩)), (6, .slice (some ad524) (l291).length c290), (72, .slice (some ad524) (l291).length c290), (73, .int .i64 ((l291).length : Int)), (74, .int .i64 (IntKind.wrap .i64 (x491 + 1)))]) rfl trivial fun a hk => ?_
              refine wpListIn_nil ?_
              refine then_n ?_
              exact ⟨k519, Nat.le_refl _, o544, t528.2.2.most, t528.2.2.lost, A534, c535, t528.2.2.l, (IntKind.wrap .i64 (x491 + 1)), (by exact Kn.pick (ks := [0, 5, 6, 72, 73, 74]) hk rfl), hs, f533, f292, f536, f900000, hc537, (hlp521 ▸ H)⟩
            · rw [b547] at hk H
              replace H := bifT H
              refine x_if hk (b := true) rfl ?_
              refine (show Code.wpIn _ _ _ _ _ _ _ from ?_)
              refine x_seq ?_
              refine wpIn_region_lit ?_
              refine x_run tab hk (k := 1) (lv := []) (ks := [4]) (e' := [(4, .bool false)]) rfl trivial fun a hk => ?_
              refine wpListIn_nil ?_
              refine then_n ?_
              refine wpIn_ret ?_
              refine blk_r ?_
              refine then_r ?_
              refine then_r ?_
              refine blk_r ?_
              refine then_r ?_
              obtain rfl := Option.some.inj H
              exact x_retG hk (rs := [.tmp 4]) (vs := [.bool false]) rfl ⟨rfl, trivial⟩ ⟨fun b_ => if b_ < w.heap.size then o b_ else (fun _ => 0) (o544 b_), rfl, hs.close0 o (fun _ => 0)⟩
          · rw [b546] at hk H
            replace H := bifT H
            refine x_run tab hk (k := 5) (lv := []) (ks := [0, 5, 6, 72, 73, 74, 90]) (e' := [(0, .slice Ap0 (p0).length cp0), (5, .pointer (some ⟨bx18, 0, none⟩)), (6, .slice (some ad524) (l291).length c290), (72, .slice (some ad524) (l291).length c290), (73, .int .i64 ((l291).length : Int)), (74, .int .i64 x491), (90, .bool true)]) rfl trivial fun a hk => ?_
            refine wpListIn_nil ?_
            refine then_n ?_
            refine x_if hk (b := true) rfl ?_
            refine (show Code.wpIn _ _ _ _ _ _ _ from ?_)
            refine x_seq ?_
            refine wpIn_region_lit ?_
            refine x_run tab hk (k := 1) (lv := []) (ks := [4]) (e' := [(4, .bool false)]) rfl trivial fun a hk => ?_
            refine wpListIn_nil ?_
            refine then_n ?_
            refine wpIn_ret ?_
            refine blk_r ?_
            refine then_r ?_
            refine then_r ?_
            refine blk_r ?_
            refine then_r ?_
            obtain rfl := Option.some.inj H
            exact x_retG hk (rs := [.tmp 4]) (vs := [.bool false]) rfl ⟨rfl, trivial⟩ ⟨fun b_ => if b_ < w.heap.size then o b_ else (fun _ => 0) (o544 b_), rfl, hs.close0 o (fun _ => 0)⟩
      · rw [b319] at hk H
        replace H := bifT H
        refine x_if hk (b := true) rfl ?_
        refine (show Code.wpIn _ _ _ _ _ _ _ from ?_)
        refine x_seq ?_
        refine wpIn_region_lit ?_
        refine x_run tab hk (k := 1) (lv := []) (ks := [4]) (e' := [(4, .bool false)]) rfl trivial fun a hk => ?_
        refine wpListIn_nil ?_
        refine then_n ?_
        refine wpIn_ret ?_
        refine then_r ?_
        obtain rfl := Option.some.inj H
        exact x_retG hk (rs := [.tmp 4]) (vs := [.bool false]) rfl ⟨rfl, trivial⟩ ⟨fun b_ => if b_ < w.heap.size then o b_ else (fun _ => 0) (o313 b_), rfl, hs.close0 o (fun _ => 0)⟩
    refine x_seq ?_
    refine wpIn_region_lit ?_
    refine x_run tab hk (k := 1) (lv := []) (ks := [0, 1, 5, 6, 7]) (e' := [(0, .slice Ap0 (p0).length cp0), (1, .int .i64 (IntKind.wrap .i64 (1 + (bits .and .i64 p1 31)))), (5, .pointer (some ⟨bx18, 0, none⟩)), (6, .slice none 0 0), (7, .int .i64 0)]) rfl trivial fun a hk => ?_
    refine wpListIn_nil ?_
    refine then_n ?_
    refine wpIn_block ?_
    refine x_loop (fun j_ a_ w_ => ∃ o624 : Nat → Nat, ∃ x625 : Int, ∃ x626 : Int, ∃ A627 : Option Addr, ∃ c628 : Nat, ∃ l629 : List T28, ∃ A632 : Option Addr, ∃ c633 : Nat, ∃ l634 : List ByteArray, ∃ x637 : Int, Kn 106 a_ [(0, .slice Ap0 (p0).length cp0), (1, .int .i64 (IntKind.wrap .i64 (1 + (bits .and .i64 p1 31)))), (5, .pointer (some ⟨bx18, 0, none⟩)), (6, .slice A632 (l634).length c633), (7, .int .i64 x637)] ∧ St [] w (fun _ => 0) w_ o624 ∧ Ft (Bx bx18 56 [.int .i64 x625, .int .i64 x626, .slice A627 (l629).length c628]) w_ o624 70 ∧ Ft (Own ET28 29 (.slice A627 (l629).length c628) l629) w_ o624 69 ∧ Ft (Own encStr 9 (.slice A632 (l634).length c633) l634) w_ o624 71 ∧ Ft (RdC encStr Ap0 p0) w_ o624 0 ∧ (l629).length ≤ c628 ∧ (l634).length ≤ c633 ∧ tidewracklaw25_NetOrder_l4 K p0 p1 j_ x625 x626 l629 l634 x637 = some r) (k := K) ⟨(fun b_ => (fun l_ => if l_ = 1 then 70 else if l_ = 2 then 69 else l_) (o16 b_)), t13.most, t13.lost, A20, c21, t13.l, none, 0, ([] : List ByteArray), 0, (by exact Kn.pick (ks := [0, 1, 5, 6, 7]) hk rfl), (hs.relab0 (fun l_ => if l_ = 1 then 70 else if l_ = 2 then 69 else l_) rfl), (f19.relab (fun l_ => if l_ = 1 then 70 else if l_ = 2 then 69 else l_) rfl), (f22.relab (fun l_ => if l_ = 1 then 70 else if l_ = 2 then 69 else l_) rfl), (Ft.of_all (fun _ => Own.nil _ _ _) _ _ _), (f900000.relab (fun l_ => if l_ = 1 then 70 else if l_ = 2 then 69 else l_) rfl), hc23, (by simp), H⟩ (by rintro _ _ ⟨_, _, _, _, _, _, _, _, _, _, _, _, _, _, _, _, _, _, H_⟩; exact absurd (show (none : Option Bool) = some r from H_) (by simp)) ?_
    rintro k712 a w711 ⟨o624, x625, x626, A627, c628, l629, A632, c633, l634, x637, hk, hs, f19, f630, f635, f900000, hc631, hc636, H⟩
    rw [tidewracklaw25_NetOrder_l4] at H
    obtain ⟨lp713, hlp714⟩ : ∃ lp_, lp_ = tidewracklaw25_NetOrder_l4 K p0 p1 k712 := ⟨_, rfl⟩
    rw [← hlp714] at H
    refine x_mid (fun a_ w_ => ∃ o720 : Nat → Nat, Kn 106 a_ [(0, .slice Ap0 (p0).length cp0), (1, .int .i64 (IntKind.wrap .i64 (1 + (bits .and .i64 p1 31)))), (5, .pointer (some ⟨bx18, 0, none⟩)), (6, .slice A632 (l634).length c633), (7, .int .i64 x637)] ∧ St [] w (fun _ => 0) w_ o720 ∧ Ft (Bx bx18 56 [.int .i64 x625, .int .i64 x626, .slice A627 (l629).length c628]) w_ o720 81 ∧ Ft (Own ET28 29 (.slice A627 (l629).length c628) l629) w_ o720 80 ∧ Ft (Own encStr 9 (.slice A632 (l634).length c633) l634) w_ o720 82 ∧ Ft (RdC encStr Ap0 p0) w_ o720 0 ∧ tidewracklaw25_NetOrder_j5 K p0 p1 x625 x626 l629 l634 x637 lp713 = some r) ?_ ?_
    rotate_left
    · rintro a w721 ⟨o720, hk, hs, f19, f630, f635, f900000, H⟩
      rw [tidewracklaw25_NetOrder_j5] at H
      refine x_seq ?_
      refine wpIn_block ?_
      refine x_seq ?_
      refine wpIn_region_lit ?_
      obtain ⟨q722, H⟩ := ifS H
      obtain ⟨ad723, hAad723⟩ := RdC.addr f900000.now q722
      have hk_C := hk
      have f19_C := f19
      have f630_C := f630
      have f635_C := f635
      have f900000_C := f900000
      subst hAad723
      have hk := hk_C
      clear hk_C
      have f19 := f19_C
      clear f19_C
      have f630 := f630_C
      clear f630_C
      have f635 := f635_C
      clear f635_C
      have f900000 := f900000_C
      clear f900000_C
      refine x_run tab hk (k := 4) (lv := [.string (rdD (⟨#[]⟩ : ByteArray) p0 x637)]) (ks := [0, 1, 5, 6, 7, 36]) (e' := [(0, .slice (some ad723) (p0).length cp0), (1, .int .i64 (IntKind.wrap .i64 (1 + (bits .and .i64 p1 31)))), (5, .pointer (some ⟨bx18, 0, none⟩)), (6, .slice A632 (l634).length c633), (7, .int .i64 x637), (36, .string (rdD (⟨#[]⟩ : ByteArray) p0 x637))]) rfl ⟨q722, (load1 tab rfl (RdC.at0 (E := encStr) (d := (⟨#[]⟩ : ByteArray)) (i := x637) f900000.now q722 rfl)), trivial⟩ fun a hk => ?_
      refine x_op hk rfl ?_
      obtain ⟨t727, hc728, H⟩ := bindS H
      refine op_call hk ent_8 (vs := [.string (rdD (⟨#[]⟩ : ByteArray) p0 x637), .int .i64 30]) rfl (tidewracklaw01_Cut_calls (rdD (⟨#[]⟩ : ByteArray) p0 x637) 30 _ o720    _ hc728) ?_
      rintro _ w729 ⟨o730, rfl, st731⟩
      replace f19 := f19.st st731 (by decide)
      replace f630 := f630.st st731 (by decide)
      replace f635 := f635.st st731 (by decide)
      replace f900000 := f900000.st st731 (by decide)
      replace hs := hs.loc0 st731 (by decide)
      have hk := hk.put 37 (.string t727) rfl
      refine x_run tab hk (k := 1) (lv := []) (ks := [0, 1, 5, 6, 7, 8]) (e' := [(0, .slice (some ad723) (p0).length cp0), (1, .int .i64 (IntKind.wrap .i64 (1 + (bits .and .i64 p1 31)))), (5, .pointer (some ⟨bx18, 0, none⟩)), (6, .slice A632 (l634).length c633), (7, .int .i64 x637), (8, .string t727)]) rfl trivial fun a hk => ?_
      refine wpListIn_nil ?_
      refine then_n ?_
      refine x_mid (fun a_ w_ => ∃ o739 : Nat → Nat, ∃ x740 : Bool, Kn 106 a_ [(0, .slice (some ad723) (p0).length cp0), (1, .int .i64 (IntKind.wrap .i64 (1 + (bits .and .i64 p1 31)))), (5, .pointer (some ⟨bx18, 0, none⟩)), (6, .slice A632 (l634).length c633), (7, .int .i64 x637), (8, .string t727), (9, .bool x740)] ∧ St [] w (fun _ => 0) w_ o739 ∧ Ft (Bx bx18 56 [.int .i64 x625, .int .i64 x626, .slice A627 (l629).length c628]) w_ o739 84 ∧ Ft (Own ET28 29 (.slice A627 (l629).length c628) l629) w_ o739 83 ∧ Ft (Own encStr 9 (.slice A632 (l634).length c633) l634) w_ o739 85 ∧ Ft (RdC encStr (some ad723) p0) w_ o739 0 ∧ tidewracklaw25_NetOrder_j6 K x625 x626 l629 l634 x637 lp713 t727 x740 = some r) ?_ ?_
      rotate_left
      · rintro a w741 ⟨o739, x740, hk, hs, f19, f630, f635, f900000, H⟩
        rw [tidewracklaw25_NetOrder_j6] at H
        refine x_seq ?_
        refine x_seq ?_
        refine wpIn_region_lit ?_
        refine x_run tab hk (k := 6) (lv := []) (ks := [0, 1, 5, 6, 7, 8, 9, 46, 51]) (e' := [(0, .slice (some ad723) (p0).length cp0), (1, .int .i64 (IntKind.wrap .i64 (1 + (bits .and .i64 p1 31)))), (5, .pointer (some ⟨bx18, 0, none⟩)), (6, .slice A632 (l634).length c633), (7, .int .i64 x637), (8, .string t727), (9, .bool x740), (46, .pointer (some ⟨bx18, 0, none⟩)), (51, .agg #[.int .i64 x637, .int .i64 (bits .and .i64 x637 1), .string t727])]) rfl trivial fun a hk => ?_
        refine x_op hk rfl ?_
        refine op_slice (o := o739) tab hk (vs := [.agg #[.int .i64 x637, .int .i64 (bits .and .i64 x637 1), .string t727]]) (cs := [.int .i64 x637, .int .i64 (bits .and .i64 x637 1), .string t727]) rfl rfl rfl rfl rfl rfl rfl rfl rfl 86 fun bx745 w742 o743 st744 f746 => ?_
        replace f19 := f19.st st744 (by decide)
        replace f630 := f630.st st744 (by decide)
        replace f635 := f635.st st744 (by decide)
        replace f900000 := f900000.st st744 (by decide)
        replace hs := hs.loc0 st744 (by decide)
        have f747 : Ft (Own ET28 29 (.slice (some ⟨bx745, 0, none⟩) (([(⟨x637, (bits .and .i64 x637 1), t727⟩ : T28)] : List T28)).length 1) ([(⟨x637, (bits .and .i64 x637 1), t727⟩ : T28)] : List T28)) w742 o743 86 := f746.imp fun _ h_ => Own.of_box h_ rfl (by simp)
        have hk := hk.put 52 (.slice (some ⟨bx745, 0, none⟩) (([(⟨x637, (bits .and .i64 x637 1), t727⟩ : T28)] : List T28)).length 1) rfl
        refine x_op hk rfl ?_
        obtain ⟨t751, hc752, H⟩ := bindS H
        refine op_call hk ent_9 (vs := [.pointer (some ⟨bx18, 0, none⟩), .slice (some ⟨bx745, 0, none⟩) (([(⟨x637, (bits .and .i64 x637 1), t727⟩ : T28)] : List T28)).length 1]) rfl (net_Net_Send_calls K bx18 A627 c628 (⟨x625, x626, l629⟩ : T55) (some ⟨bx745, 0, none⟩) 1 ([(⟨x637, (bits .and .i64 x637 1), t727⟩ : T28)] : List T28) _ o743 84 f19 83 f630 hc631 _ (f747.imp fun _ h_ => Own.rd h_) (Nat.le_refl _) (by decide) (by decide)   _ hc752) ?_
        rintro _ w753 ⟨o754, A757, c758, rfl, st755, f756, f759, hc760⟩
        replace f635 := f635.st st755 (by decide)
        replace f747 := f747.st st755 (by decide)
        replace f900000 := f900000.st st755 (by decide)
        replace hs := hs.loc0 st755 (by decide)
        have hk := hk.put 53 (.int .i64 t751.1) rfl
        refine x_run tab hk (k := 1) (lv := []) (ks := [0, 1, 5, 6, 7, 8, 9, 53, 54]) (e' := [(0, .slice (some ad723) (p0).length cp0), (1, .int .i64 (IntKind.wrap .i64 (1 + (bits .and .i64 p1 31)))), (5, .pointer (some ⟨bx18, 0, none⟩)), (6, .slice A632 (l634).length c633), (7, .int .i64 x637), (8, .string t727), (9, .bool x740), (53, .int .i64 t751.1), (54, .bool x740)]) rfl trivial fun a hk => ?_
        refine x_op hk rfl ?_
        obtain ⟨t764, hc765, H⟩ := bindS H
        refine op_call hk ent_10 (vs := [.bool x740]) rfl (tidewracklaw25_bit_calls x740 _ o754    _ hc765) ?_
        rintro _ w766 ⟨o767, rfl, st768⟩
        replace f635 := f635.st st768 (by decide)
        replace f756 := f756.st st768 (by decide)
        replace f759 := f759.st st768 (by decide)
        replace f900000 := f900000.st st768 (by decide)
        replace hs := hs.loc0 st768 (by decide)
        have hk := hk.put 55 (.int .i64 t764) rfl
        refine x_run tab hk (k := 1) (lv := []) (ks := [0, 1, 5, 6, 7, 8, 9, 56]) (e' := [(0, .slice (some ad723) (p0).length cp0), (1, .int .i64 (IntKind.wrap .i64 (1 + (bits .and .i64 p1 31)))), (5, .pointer (some ⟨bx18, 0, none⟩)), (6, .slice A632 (l634).length c633), (7, .int .i64 x637), (8, .string t727), (9, .bool x740), (56, .bool (t751.1 != t764))]) rfl trivial fun a hk => ?_
        refine wpListIn_nil ?_
        refine then_n ?_
        cases b769 : (t751.1 != t764)
        · rw [b769] at hk H
          replace H := bifF H
          refine x_if hk (b := false) rfl ?_
          refine (show Code.wpIn _ _ _ _ _ _ _ from ?_)
          refine wpIn_skip ?_
          refine then_n ?_
          refine x_seq ?_
          refine wpIn_region_lit ?_
          refine x_run tab hk (k := 1) (lv := []) (ks := [0, 1, 5, 6, 7, 8, 57]) (e' := [(0, .slice (some ad723) (p0).length cp0), (1, .int .i64 (IntKind.wrap .i64 (1 + (bits .and .i64 p1 31)))), (5, .pointer (some ⟨bx18, 0, none⟩)), (6, .slice A632 (l634).length c633), (7, .int .i64 x637), (8, .string t727), (57, .bool x740)]) rfl trivial fun a hk => ?_
          refine wpListIn_nil ?_
          refine then_n ?_
          cases b770 : x740
          · rw [b770] at hk H
            replace H := bifF H
            refine x_if hk (b := false) rfl ?_
            refine (show Code.wpIn _ _ _ _ _ _ _ from ?_)
            refine wpIn_skip ?_
            refine blk_n ?_
            refine then_n ?_
            refine wpIn_region_lit ?_
            refine x_run tab hk (k := 3) (lv := []) (ks := [0, 1, 5, 6, 7]) (e' := [(0, .slice (some ad723) (p0).length cp0), (1, .int .i64 (IntKind.wrap .i64 (1 + (bits .and .i64 p1 31)))), (5, .pointer (some ⟨bx18, 0, none⟩)), (6, .slice A632 (l634).length c633), (7, .int .i64 (IntKind.wrap .i64 (x637 + 1)))]) rfl trivial fun a hk => ?_
            refine wpListIn_nil ?_
            refine then_n ?_
            exact ⟨k712, Nat.le_refl _, (fun b_ => (fun l_ => if l_ = 83 then 69 else if l_ = 84 then 70 else if l_ = 85 then 71 else l_) (o767 b_)), t751.2.most, t751.2.lost, A757, c758, t751.2.l, A632, c633, l634, (IntKind.wrap .i64 (x637 + 1)), (by exact Kn.pick (ks := [0, 1, 5, 6, 7]) hk rfl), (hs.relab0 (fun l_ => if l_ = 83 then 69 else if l_ = 84 then 70 else if l_ = 85 then 71 else l_) rfl), (f756.relab (fun l_ => if l_ = 83 then 69 else if l_ = 84 then 70 else if l_ = 85 then 71 else l_) rfl), (f759.relab (fun l_ => if l_ = 83 then 69 else if l_ = 84 then 70 else if l_ = 85 then 71 else l_) rfl), (f635.relab (fun l_ => if l_ = 83 then 69 else if l_ = 84 then 70 else if l_ = 85 then 71 else l_) rfl), (f900000.relab (fun l_ => if l_ = 83 then 69 else if l_ = 84 then 70 else if l_ = 85 then 71 else l_) rfl), hc760, hc636, (hlp714 ▸ H)⟩
          · rw [b770] at hk H
            replace H := bifT H
            refine x_if hk (b := true) rfl ?_
            refine (show Code.wpIn _ _ _ _ _ _ _ from ?_)
            refine wpIn_region_lit ?_
            refine x_run tab hk (k := 2) (lv := []) (ks := [0, 1, 5, 7, 58, 59]) (e' := [(0, .slice (some ad723) (p0).length cp0), (1, .int .i64 (IntKind.wrap .i64 (1 + (bits .and .i64 p1 31)))), (5, .pointer (some ⟨bx18, 0, none⟩)), (7, .int .i64 x637), (58, .slice A632 (l634).length c633), (59, .string t727)]) rfl trivial fun a hk => ?_
            refine x_op hk rfl ?_
            refine op_slice (o := o767) tab hk (vs := [.string t727]) (cs := [.string t727]) rfl rfl rfl rfl rfl rfl rfl rfl rfl 87 fun bx774 w771 o772 st773 f775 => ?_
            replace f635 := f635.st st773 (by decide)
            replace f756 := f756.st st773 (by decide)
            replace f759 := f759.st st773 (by decide)
            replace f900000 := f900000.st st773 (by decide)
            replace hs := hs.loc0 st773 (by decide)
            have f776 : Ft (Own encStr 9 (.slice (some ⟨bx774, 0, none⟩) (([t727] : List ByteArray)).length 1) ([t727] : List ByteArray)) w771 o772 87 := f775.imp fun _ h_ => Own.of_box h_ rfl (by simp)
            have hk := hk.put 60 (.slice (some ⟨bx774, 0, none⟩) (([t727] : List ByteArray)).length 1) rfl
            refine x_op hk rfl ?_
            obtain ⟨q780, H⟩ := ifS H
            refine op_append (o := o772) (E := encStr) (xs := l634) (ys := ([t727] : List ByteArray)) tab hk rfl rfl rfl rfl rfl rfl rfl f635 (Own.rd f776.now) q780 fun A781 c782 w777 o778 st779 f783 hc784 => ?_
            replace f756 := f756.st st779 (by decide)
            replace f759 := f759.st st779 (by decide)
            replace f776 := f776.st st779 (by decide)
            replace f900000 := f900000.st st779 (by decide)
            replace hs := hs.loc0 st779 (by decide)
            have hk := hk.put 61 (.slice A781 ((l634 ++ ([t727] : List ByteArray))).length c782) rfl
            refine x_run tab hk (k := 1) (lv := []) (ks := [0, 1, 5, 6, 7]) (e' := [(0, .slice (some ad723) (p0).length cp0), (1, .int .i64 (IntKind.wrap .i64 (1 + (bits .and .i64 p1 31)))), (5, .pointer (some ⟨bx18, 0, none⟩)), (6, .slice A781 ((l634 ++ ([t727] : List ByteArray))).length c782), (7, .int .i64 x637)]) rfl trivial fun a hk => ?_
            refine wpListIn_nil ?_
            refine blk_n ?_
            refine then_n ?_
            refine wpIn_region_lit ?_
            refine x_run tab hk (k := 3) (lv := []) (ks := [0, 1, 5, 6, 7]) (e' := [(0, .slice (some ad723) (p0).length cp0), (1, .int .i64 (IntKind.wrap .i64 (1 + (bits .and .i64 p1 31)))), (5, .pointer (some ⟨bx18, 0, none⟩)), (6, .slice A781 ((l634 ++ ([t727] : List ByteArray))).length c782), (7, .int .i64 (IntKind.wrap .i64 (x637 + 1)))]) rfl trivial fun a hk => ?_
            refine wpListIn_nil ?_
            refine then_n ?_
            exact ⟨k712, Nat.le_refl _, (fun b_ => (fun l_ => if l_ = 83 then 69 else if l_ = 84 then 70 else if l_ = 85 then 71 else l_) (o778 b_)), t751.2.most, t751.2.lost, A757, c758, t751.2.l, A781, c782, (l634 ++ ([t727] : List ByteArray)), (IntKind.wrap .i64 (x637 + 1)), (by exact Kn.pick (ks := [0, 1, 5, 6, 7]) hk rfl), (hs.relab0 (fun l_ => if l_ = 83 then 69 else if l_ = 84 then 70 else if l_ = 85 then 71 else l_) rfl), (f756.relab (fun l_ => if l_ = 83 then 69 else if l_ = 84 then 70 else if l_ = 85 then 71 else l_) rfl), (f759.relab (fun l_ => if l_ = 83 then 69 else if l_ = 84 then 70 else if l_ = 85 then 71 else l_) rfl), (f783.relab (fun l_ => if l_ = 83 then 69 else if l_ = 84 then 70 else if l_ = 85 then 71 else l_) rfl), (f900000.relab (fun l_ => if l_ = 83 then 69 else if l_ = 84 then 70 else if l_ = 85 then 71 else l_) rfl), hc760, hc784, (hlp714 ▸ H)⟩
        · rw [b769] at hk H
          replace H := bifT H
          refine x_if hk (b := true) rfl ?_
          refine (show Code.wpIn _ _ _ _ _ _ _ from ?_)
          refine x_seq ?_
          refine wpIn_region_lit ?_
          refine x_run tab hk (k := 1) (lv := []) (ks := [4]) (e' := [(4, .bool false)]) rfl trivial fun a hk => ?_
          refine wpListIn_nil ?_
          refine then_n ?_
          refine wpIn_ret ?_
          refine then_r ?_
          refine blk_r ?_
          refine then_r ?_
          refine then_r ?_
          refine blk_r ?_
          refine then_r ?_
          obtain rfl := Option.some.inj H
          exact x_retG hk (rs := [.tmp 4]) (vs := [.bool false]) rfl ⟨rfl, trivial⟩ ⟨fun b_ => if b_ < w.heap.size then o b_ else (fun _ => 0) (o767 b_), rfl, hs.close0 o (fun _ => 0)⟩
      refine wpIn_region_lit ?_
      refine x_run tab hk (k := 3) (lv := []) (ks := [0, 1, 5, 6, 7, 8, 40]) (e' := [(0, .slice (some ad723) (p0).length cp0), (1, .int .i64 (IntKind.wrap .i64 (1 + (bits .and .i64 p1 31)))), (5, .pointer (some ⟨bx18, 0, none⟩)), (6, .slice A632 (l634).length c633), (7, .int .i64 x637), (8, .string t727), (40, .bool (!(ByteArray.toList t727 == ByteArray.toList (⟨#[]⟩ : ByteArray))))]) rfl trivial fun a hk => ?_
      cases b785 : (!(ByteArray.toList t727 == ByteArray.toList (⟨#[]⟩ : ByteArray)))
      · rw [b785] at hk H
        replace H := bifF H
        refine x_run tab hk (k := 6) (lv := []) (ks := [0, 1, 5, 6, 7, 8, 9]) (e' := [(0, .slice (some ad723) (p0).length cp0), (1, .int .i64 (IntKind.wrap .i64 (1 + (bits .and .i64 p1 31)))), (5, .pointer (some ⟨bx18, 0, none⟩)), (6, .slice A632 (l634).length c633), (7, .int .i64 x637), (8, .string t727), (9, .bool false)]) rfl trivial fun a hk => ?_
        refine wpListIn_nil ?_
        refine then_n ?_
        exact ⟨(fun b_ => (fun l_ => if l_ = 80 then 83 else if l_ = 81 then 84 else if l_ = 82 then 85 else l_) (o730 b_)), false, (by exact Kn.pick (ks := [0, 1, 5, 6, 7, 8, 9]) hk rfl), (hs.relab0 (fun l_ => if l_ = 80 then 83 else if l_ = 81 then 84 else if l_ = 82 then 85 else l_) rfl), (f19.relab (fun l_ => if l_ = 80 then 83 else if l_ = 81 then 84 else if l_ = 82 then 85 else l_) rfl), (f630.relab (fun l_ => if l_ = 80 then 83 else if l_ = 81 then 84 else if l_ = 82 then 85 else l_) rfl), (f635.relab (fun l_ => if l_ = 80 then 83 else if l_ = 81 then 84 else if l_ = 82 then 85 else l_) rfl), (f900000.relab (fun l_ => if l_ = 80 then 83 else if l_ = 81 then 84 else if l_ = 82 then 85 else l_) rfl), H⟩
      · rw [b785] at hk H
        replace H := bifT H
        refine x_run tab hk (k := 6) (lv := []) (ks := [0, 1, 5, 6, 7, 8, 9]) (e' := [(0, .slice (some ad723) (p0).length cp0), (1, .int .i64 (IntKind.wrap .i64 (1 + (bits .and .i64 p1 31)))), (5, .pointer (some ⟨bx18, 0, none⟩)), (6, .slice A632 (l634).length c633), (7, .int .i64 x637), (8, .string t727), (9, .bool (decide (((l634).length : Int) < (IntKind.wrap .i64 (1 + (bits .and .i64 p1 31))))))]) rfl trivial fun a hk => ?_
        refine wpListIn_nil ?_
        refine then_n ?_
        exact ⟨(fun b_ => (fun l_ => if l_ = 80 then 83 else if l_ = 81 then 84 else if l_ = 82 then 85 else l_) (o730 b_)), (decide (((l634).length : Int) < (IntKind.wrap .i64 (1 + (bits .and .i64 p1 31))))), (by exact Kn.pick (ks := [0, 1, 5, 6, 7, 8, 9]) hk rfl), (hs.relab0 (fun l_ => if l_ = 80 then 83 else if l_ = 81 then 84 else if l_ = 82 then 85 else l_) rfl), (f19.relab (fun l_ => if l_ = 80 then 83 else if l_ = 81 then 84 else if l_ = 82 then 85 else l_) rfl), (f630.relab (fun l_ => if l_ = 80 then 83 else if l_ = 81 then 84 else if l_ = 82 then 85 else l_) rfl), (f635.relab (fun l_ => if l_ = 80 then 83 else if l_ = 81 then 84 else if l_ = 82 then 85 else l_) rfl), (f900000.relab (fun l_ => if l_ = 80 then 83 else if l_ = 81 then 84 else if l_ = 82 then 85 else l_) rfl), H⟩
    refine x_seq ?_
    refine wpIn_region_lit ?_
    refine x_run tab hk (k := 5) (lv := []) (ks := [0, 1, 5, 6, 7, 27]) (e' := [(0, .slice Ap0 (p0).length cp0), (1, .int .i64 (IntKind.wrap .i64 (1 + (bits .and .i64 p1 31)))), (5, .pointer (some ⟨bx18, 0, none⟩)), (6, .slice A632 (l634).length c633), (7, .int .i64 x637), (27, .bool (decide (x637 < ((p0).length : Int))))]) rfl trivial fun a hk => ?_
    cases b786 : (decide (x637 < ((p0).length : Int)))
    · rw [b786] at hk H
      replace H := bifF H
      refine x_run tab hk (k := 3) (lv := []) (ks := [0, 1, 5, 6, 7, 30]) (e' := [(0, .slice Ap0 (p0).length cp0), (1, .int .i64 (IntKind.wrap .i64 (1 + (bits .and .i64 p1 31)))), (5, .pointer (some ⟨bx18, 0, none⟩)), (6, .slice A632 (l634).length c633), (7, .int .i64 x637), (30, .bool false)]) rfl trivial fun a hk => ?_
      refine wpListIn_nil ?_
      refine then_n ?_
      refine x_if hk (b := false) rfl ?_
      refine (show Code.wpIn _ _ _ _ _ _ _ from ?_)
      refine wpIn_exit ?_
      refine then_x ?_
      refine then_x ?_
      refine blk_x ?_
      refine then_n ?_
      exact ⟨(fun b_ => (fun l_ => if l_ = 69 then 32 else if l_ = 70 then 33 else if l_ = 71 then 34 else l_) (o624 b_)), x625, x626, A627, c628, l629, A632, c633, l634, (by exact Kn.pick (ks := [0, 5, 6]) hk rfl), (hs.relab0 (fun l_ => if l_ = 69 then 32 else if l_ = 70 then 33 else if l_ = 71 then 34 else l_) rfl), (f19.relab (fun l_ => if l_ = 69 then 32 else if l_ = 70 then 33 else if l_ = 71 then 34 else l_) rfl), (f630.relab (fun l_ => if l_ = 69 then 32 else if l_ = 70 then 33 else if l_ = 71 then 34 else l_) rfl), (f635.relab (fun l_ => if l_ = 69 then 32 else if l_ = 70 then 33 else if l_ = 71 then 34 else l_) rfl), (f900000.relab (fun l_ => if l_ = 69 then 32 else if l_ = 70 then 33 else if l_ = 71 then 34 else l_) rfl), hc631, hc636, H⟩
    · rw [b786] at hk H
      replace H := bifT H
      refine x_run tab hk (k := 3) (lv := []) (ks := [0, 1, 5, 6, 7, 30]) (e' := [(0, .slice Ap0 (p0).length cp0), (1, .int .i64 (IntKind.wrap .i64 (1 + (bits .and .i64 p1 31)))), (5, .pointer (some ⟨bx18, 0, none⟩)), (6, .slice A632 (l634).length c633), (7, .int .i64 x637), (30, .bool (decide (x637 < (40 : Int))))]) rfl trivial fun a hk => ?_
      refine wpListIn_nil ?_
      refine then_n ?_
      cases b787 : (decide (x637 < (40 : Int)))
      · rw [b787] at hk H
        replace H := bifF H
        refine x_if hk (b := false) rfl ?_
        refine (show Code.wpIn _ _ _ _ _ _ _ from ?_)
        refine wpIn_exit ?_
        refine then_x ?_
        refine then_x ?_
        refine blk_x ?_
        refine then_n ?_
        exact ⟨(fun b_ => (fun l_ => if l_ = 69 then 32 else if l_ = 70 then 33 else if l_ = 71 then 34 else l_) (o624 b_)), x625, x626, A627, c628, l629, A632, c633, l634, (by exact Kn.pick (ks := [0, 5, 6]) hk rfl), (hs.relab0 (fun l_ => if l_ = 69 then 32 else if l_ = 70 then 33 else if l_ = 71 then 34 else l_) rfl), (f19.relab (fun l_ => if l_ = 69 then 32 else if l_ = 70 then 33 else if l_ = 71 then 34 else l_) rfl), (f630.relab (fun l_ => if l_ = 69 then 32 else if l_ = 70 then 33 else if l_ = 71 then 34 else l_) rfl), (f635.relab (fun l_ => if l_ = 69 then 32 else if l_ = 70 then 33 else if l_ = 71 then 34 else l_) rfl), (f900000.relab (fun l_ => if l_ = 69 then 32 else if l_ = 70 then 33 else if l_ = 71 then 34 else l_) rfl), hc631, hc636, H⟩
      · rw [b787] at hk H
        replace H := bifT H
        refine x_if hk (b := true) rfl ?_
        refine (show Code.wpIn _ _ _ _ _ _ _ from ?_)
        refine wpIn_skip ?_
        refine then_n ?_
        exact ⟨(fun b_ => (fun l_ => if l_ = 69 then 80 else if l_ = 70 then 81 else if l_ = 71 then 82 else l_) (o624 b_)), (by exact Kn.pick (ks := [0, 1, 5, 6, 7]) hk rfl), (hs.relab0 (fun l_ => if l_ = 69 then 80 else if l_ = 70 then 81 else if l_ = 71 then 82 else l_) rfl), (f19.relab (fun l_ => if l_ = 69 then 80 else if l_ = 70 then 81 else if l_ = 71 then 82 else l_) rfl), (f630.relab (fun l_ => if l_ = 69 then 80 else if l_ = 70 then 81 else if l_ = 71 then 82 else l_) rfl), (f635.relab (fun l_ => if l_ = 69 then 80 else if l_ = 70 then 81 else if l_ = 71 then 82 else l_) rfl), (f900000.relab (fun l_ => if l_ = 69 then 80 else if l_ = 70 then 81 else if l_ = 71 then 82 else l_) rfl), H⟩
  · rw [b9] at hk H
    replace H := bifT H
    refine x_if hk (b := true) rfl ?_
    refine (show Code.wpIn _ _ _ _ _ _ _ from ?_)
    refine x_seq ?_
    refine wpIn_region_lit ?_
    refine x_run tab hk (k := 1) (lv := []) (ks := [4]) (e' := [(4, .bool false)]) rfl trivial fun a hk => ?_
    refine wpListIn_nil ?_
    refine then_n ?_
    refine wpIn_ret ?_
    refine then_r ?_
    obtain rfl := Option.some.inj H
    exact x_retG hk (rs := [.tmp 4]) (vs := [.bool false]) rfl ⟨rfl, trivial⟩ ⟨fun b_ => if b_ < w.heap.size then o b_ else (fun _ => 0) (o7 b_), rfl, hs.close0 o (fun _ => 0)⟩

/-! (*tidewrack/net.Net).Lose -/
theorem net_Net_Lose_calls (bp0 : Nat) (Ap0_0 : Option Addr) (cp0_0 : Nat) (p0 : T55) (p1 : Int) (w : World) (o : Nat → Nat) (Lp0 : Nat) (hp0 : Ft (Bx bp0 56 [.int .i64 p0.most, .int .i64 p0.lost, .slice Ap0_0 (p0.l).length cp0_0]) w o Lp0) (Lp0_0 : Nat) (hp0_0 : Ft (Own ET28 29 (.slice Ap0_0 (p0.l).length cp0_0) p0.l) w o Lp0_0) (hcp0_0 : (p0.l).length ≤ cp0_0) (hd0 : ([Lp0, Lp0_0] : List Nat).Nodup) (r : Bool × T55) (H : net_Net_Lose p0 p1 = some r) :
    Calls Try.prog 15 #[.pointer (some ⟨bp0, 0, none⟩), .int .i64 p1] w (Ret fun v_ w' => ∃ o' : Nat → Nat, ∃ A0 : Option Addr, ∃ c0 : Nat, v_ = .bool r.1 ∧ St [Lp0, Lp0_0] w o w' o' ∧ Ft (Bx bp0 56 [.int .i64 r.2.most, .int .i64 r.2.lost, .slice A0 (r.2.l).length c0]) w' o' Lp0 ∧ Ft (Own ET28 29 (.slice A0 (r.2.l).length c0) (r.2.l)) w' o' Lp0_0 ∧ (r.2.l).length ≤ c0) := by
  refine x_enter (vs := [.pointer (some ⟨bp0, 0, none⟩), .int .i64 p1]) Try.func15 rfl rfl rfl fun a hk => ?_
  obtain ⟨oi, hs0, h0, h1, hob, hoz, hoa⟩ := St.startM2 w o (m := 2) hd0 rfl
  have hs := hs0 [1, 2]
  have hom := lab_in hob (MM := [1, 2]) (by decide)
  have f900000 := h1 1 2 hp0_0 rfl rfl
  have f900019 := h1 0 1 hp0 rfl rfl
  clear h0 h1 hs0
  rw [net_Net_Lose] at H
  refine x_seq ?_
  refine wpIn_region_lit ?_
  refine x_run tab hk (k := 1) (lv := []) (ks := [0, 1]) (e' := [(0, .pointer (some ⟨bp0, 0, none⟩)), (1, .int .i64 p1)]) rfl trivial fun a hk => ?_
  refine wpListIn_nil ?_
  refine then_n ?_
  refine x_seq ?_
  refine wpIn_region_lit ?_
  refine x_run tab hk (k := 2) (lv := []) (ks := [0, 8, 9]) (e' := [(0, .pointer (some ⟨bp0, 0, none⟩)), (8, .pointer (some ⟨bp0, 0, none⟩)), (9, .int .i64 p1)]) rfl trivial fun a hk => ?_
  refine x_op hk rfl ?_
  obtain ⟨t4, hc5, H⟩ := bindS H
  refine op_call hk ent_12 (vs := [.pointer (some ⟨bp0, 0, none⟩), .int .i64 p1]) rfl (net_Net_Take_calls bp0 Ap0_0 cp0_0 p0 p1 _ oi 1 f900019 2 f900000 hcp0_0 (by decide)   _ hc5) ?_
  rintro _ w6 ⟨o7, A10, c11, rfl, st8, f9, f12, hc13⟩
  replace hs := hs.locM st8 (by decide) hom
  have hk := hk.put 10 (.tuple #[.agg #[.int .i64 t4.1.From, .int .i64 t4.1.To, .string t4.1.Data], .bool t4.2.1]) rfl
  refine x_run tab hk (k := 3) (lv := []) (ks := [0, 11, 12]) (e' := [(0, .pointer (some ⟨bp0, 0, none⟩)), (11, .agg #[.int .i64 t4.1.From, .int .i64 t4.1.To, .string t4.1.Data]), (12, .bool t4.2.1)]) rfl trivial fun a hk => ?_
  refine x_op hk rfl ?_
  refine op_alloc (o := o7) tab (t := 29) (cs := [.int .i64 0, .int .i64 0, .string (⟨#[]⟩ : ByteArray)]) rfl rfl 3 fun bx17 w14 o15 st16 f18 => ?_
  replace f12 := f12.st st16 (by decide)
  replace f9 := f9.st st16 (by decide)
  replace hs := hs.locM st16 (by decide) hom
  have hk := hk.put 5 (.pointer (some ⟨bx17, 0, none⟩)) rfl
  refine x_op hk rfl ?_
  refine op_store tab hk (t := 29) (v := .agg #[.int .i64 t4.1.From, .int .i64 t4.1.To, .string t4.1.Data]) (b := bx17) (k := 0) (cs' := [.int .i64 t4.1.From, .int .i64 t4.1.To, .string t4.1.Data]) rfl rfl rfl rfl rfl rfl f18 rfl rfl fun w19 o20 st21 f18_ => ?_
  replace f12 := f12.st st21 (by decide)
  replace f9 := f9.st st21 (by decide)
  replace hs := hs.locM st21 (by decide) hom
  replace f18 := f18_
  refine x_run tab hk (k := 1) (lv := []) (ks := [0, 6]) (e' := [(0, .pointer (some ⟨bp0, 0, none⟩)), (6, .bool t4.2.1)]) rfl trivial fun a hk => ?_
  refine wpListIn_nil ?_
  refine then_n ?_
  refine x_seq ?_
  refine x_seq ?_
  refine wpIn_region_lit ?_
  refine x_run tab hk (k := 1) (lv := []) (ks := [0, 6, 13]) (e' := [(0, .pointer (some ⟨bp0, 0, none⟩)), (6, .bool t4.2.1), (13, .bool t4.2.1)]) rfl trivial fun a hk => ?_
  refine wpListIn_nil ?_
  refine then_n ?_
  cases b22 : t4.2.1
  · rw [b22] at hk H
    replace H := bifF H
    refine x_if hk (b := false) rfl ?_
    refine (show Code.wpIn _ _ _ _ _ _ _ from ?_)
    refine wpIn_skip ?_
    refine then_n ?_
    refine x_seq ?_
    refine wpIn_region_lit ?_
    refine x_run tab hk (k := 2) (lv := []) (ks := [4]) (e' := [(4, .bool false)]) rfl trivial fun a hk => ?_
    refine wpListIn_nil ?_
    refine then_n ?_
    refine wpIn_ret ?_
    obtain rfl := Option.some.inj H
    exact x_retG hk (rs := [.tmp 4]) (vs := [.bool false]) rfl ⟨rfl, trivial⟩ ⟨fun b_ => if b_ < w.heap.size then o b_ else (fun l_ => if l_ = 1 then Lp0 else if l_ = 2 then Lp0_0 else 0) (o20 b_), A10, c11, rfl, hs.closeM hoz (by decide) (fun l_ => if l_ = 1 then Lp0 else if l_ = 2 then Lp0_0 else 0), hs.closeM_ft (o := o) (ρ := fun l_ => if l_ = 1 then Lp0 else if l_ = 2 then Lp0_0 else 0) f9 (lab_at hoa (i := 0) rfl) rfl, hs.closeM_ft (o := o) (ρ := fun l_ => if l_ = 1 then Lp0 else if l_ = 2 then Lp0_0 else 0) f12 (lab_at hoa (i := 1) rfl) rfl, hc13⟩
  · rw [b22] at hk H
    replace H := bifT H
    refine x_if hk (b := true) rfl ?_
    refine (show Code.wpIn _ _ _ _ _ _ _ from ?_)
    refine wpIn_region_lit ?_
    refine x_run tab hk (k := 7) (lv := [.int .i64 t4.2.2.lost]) (ks := [6, 18, 20]) (e' := [(6, .bool true), (18, .int .i64 (IntKind.wrap .i64 (t4.2.2.lost + 1))), (20, .pointer (some ((⟨bp0, 0, none⟩ : Addr).add 1)))]) rfl ⟨(load1 tab rfl ((Bx.cell f9.now 1).trans rfl)), trivial⟩ fun a hk => ?_
    refine x_op hk rfl ?_
    refine op_store tab hk (t := 3) (v := .int .i64 (IntKind.wrap .i64 (t4.2.2.lost + 1))) (b := bp0) (k := 1) (cs' := [.int .i64 t4.2.2.most, .int .i64 (IntKind.wrap .i64 (t4.2.2.lost + 1)), .slice A10 (t4.2.2.l).length c11]) rfl rfl rfl rfl rfl rfl f9 rfl rfl fun w23 o24 st25 f9_ => ?_
    replace f12 := f12.st st25 (by decide)
    replace hs := hs.locM st25 (by decide) hom
    replace f9 := f9_
    refine wpListIn_nil ?_
    refine then_n ?_
    refine x_seq ?_
    refine wpIn_region_lit ?_
    refine x_run tab hk (k := 2) (lv := []) (ks := [4]) (e' := [(4, .bool true)]) rfl trivial fun a hk => ?_
    refine wpListIn_nil ?_
    refine then_n ?_
    refine wpIn_ret ?_
    obtain rfl := Option.some.inj H
    exact x_retG hk (rs := [.tmp 4]) (vs := [.bool true]) rfl ⟨rfl, trivial⟩ ⟨fun b_ => if b_ < w.heap.size then o b_ else (fun l_ => if l_ = 1 then Lp0 else if l_ = 2 then Lp0_0 else 0) (o24 b_), A10, c11, rfl, hs.closeM hoz (by decide) (fun l_ => if l_ = 1 then Lp0 else if l_ = 2 then Lp0_0 else 0), hs.closeM_ft (o := o) (ρ := fun l_ => if l_ = 1 then Lp0 else if l_ = 2 then Lp0_0 else 0) f9 (lab_at hoa (i := 0) rfl) rfl, hs.closeM_ft (o := o) (ρ := fun l_ => if l_ = 1 then Lp0 else if l_ = 2 then Lp0_0 else 0) f12 (lab_at hoa (i := 1) rfl) rfl, hc13⟩

/-! (*tidewrack/net.Net).Twin -/
theorem net_Net_Twin_calls (bp0 : Nat) (Ap0_0 : Option Addr) (cp0_0 : Nat) (p0 : T55) (p1 : Int) (w : World) (o : Nat → Nat) (Lp0 : Nat) (hp0 : Ft (Bx bp0 56 [.int .i64 p0.most, .int .i64 p0.lost, .slice Ap0_0 (p0.l).length cp0_0]) w o Lp0) (Lp0_0 : Nat) (hp0_0 : Ft (Own ET28 29 (.slice Ap0_0 (p0.l).length cp0_0) p0.l) w o Lp0_0) (hcp0_0 : (p0.l).length ≤ cp0_0) (hd0 : ([Lp0, Lp0_0] : List Nat).Nodup) (r : Bool × T55) (H : net_Net_Twin p0 p1 = some r) :
    Calls Try.prog 16 #[.pointer (some ⟨bp0, 0, none⟩), .int .i64 p1] w (Ret fun v_ w' => ∃ o' : Nat → Nat, ∃ A0 : Option Addr, ∃ c0 : Nat, v_ = .bool r.1 ∧ St [Lp0, Lp0_0] w o w' o' ∧ Ft (Bx bp0 56 [.int .i64 r.2.most, .int .i64 r.2.lost, .slice A0 (r.2.l).length c0]) w' o' Lp0 ∧ Ft (Own ET28 29 (.slice A0 (r.2.l).length c0) (r.2.l)) w' o' Lp0_0 ∧ (r.2.l).length ≤ c0) := by
  refine x_enter (vs := [.pointer (some ⟨bp0, 0, none⟩), .int .i64 p1]) Try.func16 rfl rfl rfl fun a hk => ?_
  obtain ⟨oi, hs0, h0, h1, hob, hoz, hoa⟩ := St.startM2 w o (m := 2) hd0 rfl
  have hs := hs0 [1, 2]
  have hom := lab_in hob (MM := [1, 2]) (by decide)
  have f900000 := h1 1 2 hp0_0 rfl rfl
  have f900019 := h1 0 1 hp0 rfl rfl
  clear h0 h1 hs0
  rw [net_Net_Twin] at H
  refine x_seq ?_
  refine wpIn_region_lit ?_
  refine x_run tab hk (k := 1) (lv := []) (ks := [0, 1]) (e' := [(0, .pointer (some ⟨bp0, 0, none⟩)), (1, .int .i64 p1)]) rfl trivial fun a hk => ?_
  refine wpListIn_nil ?_
  refine then_n ?_
  refine x_seq ?_
  refine wpIn_region_lit ?_
  refine x_run tab hk (k := 2) (lv := []) (ks := [0, 1, 5, 6]) (e' := [(0, .pointer (some ⟨bp0, 0, none⟩)), (1, .int .i64 p1), (5, .pointer (some ⟨bp0, 0, none⟩)), (6, .int .i64 p1)]) rfl trivial fun a hk => ?_
  refine x_op hk rfl ?_
  obtain ⟨t4, hc5, H⟩ := bindS H
  refine op_call hk ent_23 (vs := [.pointer (some ⟨bp0, 0, none⟩), .int .i64 p1]) rfl (net_Net_is_calls bp0 Ap0_0 cp0_0 p0 p1 _ oi 1 f900019 _ (f900000.imp fun _ h_ => Own.rd h_) hcp0_0   _ hc5) ?_
  rintro _ w6 ⟨o7, rfl, st8⟩
  replace f900000 := f900000.st st8 (by decide)
  replace f900019 := f900019.st st8 (by decide)
  replace hs := hs.locM st8 (by decide) hom
  have hk := hk.put 7 (.bool t4) rfl
  refine x_run tab hk (k := 1) (lv := []) (ks := [0, 1, 8]) (e' := [(0, .pointer (some ⟨bp0, 0, none⟩)), (1, .int .i64 p1), (8, .bool t4)]) rfl trivial fun a hk => ?_
  cases b9 : t4
  · rw [b9] at hk H
    replace H := bifF H
    refine x_run tab hk (k := 10) (lv := []) (ks := [18]) (e' := [(18, .bool false)]) rfl trivial fun a hk => ?_
    refine x_run tab hk (k := 1) (lv := []) (ks := [4]) (e' := [(4, .bool false)]) rfl trivial fun a hk => ?_
    refine wpListIn_nil ?_
    refine then_n ?_
    refine wpIn_ret ?_
    obtain rfl := Option.some.inj H
    exact x_retG hk (rs := [.tmp 4]) (vs := [.bool false]) rfl ⟨rfl, trivial⟩ ⟨fun b_ => if b_ < w.heap.size then o b_ else (fun l_ => if l_ = 1 then Lp0 else if l_ = 2 then Lp0_0 else 0) (o7 b_), Ap0_0, cp0_0, rfl, hs.closeM hoz (by decide) (fun l_ => if l_ = 1 then Lp0 else if l_ = 2 then Lp0_0 else 0), hs.closeM_ft (o := o) (ρ := fun l_ => if l_ = 1 then Lp0 else if l_ = 2 then Lp0_0 else 0) f900019 (lab_at hoa (i := 0) rfl) rfl, hs.closeM_ft (o := o) (ρ := fun l_ => if l_ = 1 then Lp0 else if l_ = 2 then Lp0_0 else 0) f900000 (lab_at hoa (i := 1) rfl) rfl, hcp0_0⟩
  · rw [b9] at hk H
    replace H := bifT H
    obtain ⟨q10, H⟩ := ifS H
    obtain ⟨ad11, hAad11⟩ := RdC.addr (Own.rd f900000.now) q10
    have hk_C := hk
    have f900000_C := f900000
    have f900019_C := f900019
    subst hAad11
    have hk := hk_C
    clear hk_C
    have f900000 := f900000_C
    clear f900000_C
    have f900019 := f900019_C
    clear f900019_C
    refine x_run tab hk (k := 8) (lv := [.slice (some ad11) (p0.l).length cp0_0, .agg #[.int .i64 ((rdD zT28 p0.l p1).From), .int .i64 ((rdD zT28 p0.l p1).To), .string ((rdD zT28 p0.l p1).Data)]]) (ks := [8, 9, 16]) (e' := [(8, .bool true), (9, .pointer (some ⟨bp0, 0, none⟩)), (16, .agg #[.int .i64 ((rdD zT28 p0.l p1).From), .int .i64 ((rdD zT28 p0.l p1).To), .string ((rdD zT28 p0.l p1).Data)])]) rfl ⟨(load1 tab rfl ((Bx.cell f900019.now 2).trans rfl)), q10, (load_elem (E := ET28) (i := p1) (dx := zT28) tab rfl rfl (Own.rd f900000.now) q10), trivial⟩ fun a hk => ?_
    refine x_op hk rfl ?_
    obtain ⟨t15, hc16, H⟩ := bindS H
    refine op_call hk ent_22 (vs := [.pointer (some ⟨bp0, 0, none⟩), .agg #[.int .i64 ((rdD zT28 p0.l p1).From), .int .i64 ((rdD zT28 p0.l p1).To), .string ((rdD zT28 p0.l p1).Data)]]) rfl (net_Net_put_calls bp0 (some ad11) cp0_0 p0 (rdD zT28 p0.l p1) _ o7 1 f900019 2 f900000 hcp0_0 (by decide)   _ hc16) ?_
    rintro _ w17 ⟨o18, A21, c22, rfl, st19, f20, f23, hc24⟩
    replace hs := hs.locM st19 (by decide) hom
    have hk := hk.put 17 (.bool t15.1) rfl
    refine x_run tab hk (k := 2) (lv := []) (ks := [4]) (e' := [(4, .bool t15.1)]) rfl trivial fun a hk => ?_
    refine wpListIn_nil ?_
    refine then_n ?_
    refine wpIn_ret ?_
    obtain rfl := Option.some.inj H
    exact x_retG hk (rs := [.tmp 4]) (vs := [.bool t15.1]) rfl ⟨rfl, trivial⟩ ⟨fun b_ => if b_ < w.heap.size then o b_ else (fun l_ => if l_ = 1 then Lp0 else if l_ = 2 then Lp0_0 else 0) (o18 b_), A21, c22, rfl, hs.closeM hoz (by decide) (fun l_ => if l_ = 1 then Lp0 else if l_ = 2 then Lp0_0 else 0), hs.closeM_ft (o := o) (ρ := fun l_ => if l_ = 1 then Lp0 else if l_ = 2 then Lp0_0 else 0) f20 (lab_at hoa (i := 0) rfl) rfl, hs.closeM_ft (o := o) (ρ := fun l_ => if l_ = 1 then Lp0 else if l_ = 2 then Lp0_0 else 0) f23 (lab_at hoa (i := 1) rfl) rfl, hc24⟩

/-! tidewrack/sum.Turn -/
theorem sum_Turn_calls (K : Nat) (p0 : ByteArray) (p1 : Int) (p2 : Int) (w : World) (o : Nat → Nat)   (r : ByteArray) (H : sum_Turn K p0 p1 p2 = some r) :
    Calls Try.prog 25 #[.string p0, .int .i64 p1, .int .u32 p2] w (Ret fun v_ w' => ∃ o' : Nat → Nat, v_ = .string r ∧ St [] w o w' o') := by
  refine x_enter (vs := [.string p0, .int .i64 p1, .int .u32 p2]) Try.func25 rfl rfl rfl fun a hk => ?_
  obtain ⟨o0, hs, h0⟩ := St.start w o
  clear h0
  rw [sum_Turn] at H
  refine x_seq ?_
  refine wpIn_region_lit ?_
  refine x_run tab hk (k := 1) (lv := []) (ks := [0, 1, 2]) (e' := [(0, .string p0), (1, .int .i64 p1), (2, .int .u32 p2)]) rfl trivial fun a hk => ?_
  refine wpListIn_nil ?_
  refine then_n ?_
  refine x_seq ?_
  refine wpIn_region_lit ?_
  refine x_run tab hk (k := 1) (lv := []) (ks := [1, 2, 9]) (e' := [(1, .int .i64 p1), (2, .int .u32 p2), (9, .string p0)]) rfl trivial fun a hk => ?_
  refine x_op hk rfl ?_
  refine op_bytes (o := o0) (s := p0) tab hk rfl rfl rfl rfl 1 fun A4 c5 w1 o2 st3 f6 hc7 => ?_
  replace hs := hs.loc0 st3 (by decide)
  have hk := hk.put 10 (.slice A4 ((numsOf p0)).length c5) rfl
  refine x_run tab hk (k := 1) (lv := []) (ks := [1, 2, 7]) (e' := [(1, .int .i64 p1), (2, .int .u32 p2), (7, .slice A4 ((numsOf p0)).length c5)]) rfl trivial fun a hk => ?_
  refine wpListIn_nil ?_
  refine then_n ?_
  refine x_mid (fun a_ w_ => ∃ o117 : Nat → Nat, ∃ A118 : Option Addr, ∃ c119 : Nat, ∃ l120 : List Int, Kn 45 a_ [(7, .slice A118 (l120).length c119)] ∧ St [] w (fun _ => 0) w_ o117 ∧ Ft (Wr (encInt .u8) 5 (.slice A118 (l120).length c119) l120) w_ o117 7 ∧ (l120).length ≤ c119 ∧ sum_Turn_j1 l120 = some r) ?_ ?_
  rotate_left
  · rintro a w123 ⟨o117, A118, c119, l120, hk, hs, f121, hc122, H⟩
    rw [sum_Turn_j1] at H
    refine x_seq ?_
    refine wpIn_region_lit ?_
    refine x_run tab hk (k := 3) (lv := [.string (strOfNums l120)]) (ks := [6]) (e' := [(6, .string (strOfNums l120))]) rfl ⟨(ask_str tab rfl rfl rfl rfl (Wr.rd f121.now) (Wr.plain f121.now _ _ _ rfl)), trivial⟩ fun a hk => ?_
    refine wpListIn_nil ?_
    refine then_n ?_
    refine wpIn_ret ?_
    obtain rfl := Option.some.inj H
    exact x_retG hk (rs := [.tmp 6]) (vs := [.string (strOfNums l120)]) rfl ⟨rfl, trivial⟩ ⟨fun b_ => if b_ < w.heap.size then o b_ else (fun _ => 0) (o117 b_), rfl, hs.close0 o (fun _ => 0)⟩
  refine x_seq ?_
  refine wpIn_region_lit ?_
  refine x_run tab hk (k := 7) (lv := []) (ks := [2, 7, 8]) (e' := [(2, .int .u32 p2), (7, .slice A4 ((numsOf p0)).length c5), (8, .int .i64 (mxI 0 (mnI p1 (IntKind.wrap .i64 (8 * (((numsOf p0)).length : Int))))))]) rfl trivial fun a hk => ?_
  refine wpListIn_nil ?_
  refine then_n ?_
  refine wpIn_block ?_
  refine x_loop (fun j_ a_ w_ => ∃ o155 : Nat → Nat, ∃ x156 : Int, ∃ A157 : Option Addr, ∃ c158 : Nat, ∃ l159 : List Int, ∃ x162 : Int, Kn 45 a_ [(2, .int .u32 x156), (7, .slice A157 (l159).length c158), (8, .int .i64 x162)] ∧ St [] w (fun _ => 0) w_ o155 ∧ Ft (Wr (encInt .u8) 5 (.slice A157 (l159).length c158) l159) w_ o155 10 ∧ (l159).length ≤ c158 ∧ sum_Turn_l2 j_ x156 l159 x162 = some r) (k := K) ⟨(fun b_ => (fun l_ => if l_ = 1 then 10 else l_) (o2 b_)), p2, A4, c5, (numsOf p0), (mxI 0 (mnI p1 (IntKind.wrap .i64 (8 * (((numsOf p0)).length : Int))))), (by exact Kn.pick (ks := [2, 7, 8]) hk rfl), (hs.relab0 (fun l_ => if l_ = 1 then 10 else l_) rfl), (f6.relab (fun l_ => if l_ = 1 then 10 else l_) rfl), hc7, H⟩ (by rintro _ _ ⟨_, _, _, _, _, _, _, _, _, _, H_⟩; exact absurd (show (none : Option ByteArray) = some r from H_) (by simp)) ?_
  rintro k192 a w191 ⟨o155, x156, A157, c158, l159, x162, hk, hs, f160, hc161, H⟩
  rw [sum_Turn_l2] at H
  obtain ⟨lp193, hlp194⟩ : ∃ lp_, lp_ = sum_Turn_l2 k192 := ⟨_, rfl⟩
  rw [← hlp194] at H
  refine x_mid (fun a_ w_ => ∃ o200 : Nat → Nat, Kn 45 a_ [(2, .int .u32 x156), (7, .slice A157 (l159).length c158), (8, .int .i64 x162)] ∧ St [] w (fun _ => 0) w_ o200 ∧ Ft (Wr (encInt .u8) 5 (.slice A157 (l159).length c158) l159) w_ o200 12 ∧ sum_Turn_j3 x156 l159 x162 lp193 = some r) ?_ ?_
  rotate_left
  · rintro a w201 ⟨o200, hk, hs, f160, H⟩
    rw [sum_Turn_j3] at H
    refine x_seq ?_
    refine wpIn_block ?_
    refine x_seq ?_
    refine xd_begin (o := o200) (fun W_ => (Wr (encInt .u8) 5 (.slice A157 (l159).length c158) l159) W_ ∧ True) mixed rfl rfl fun w212 st213 => ?_
    replace f160 := f160.st st213 (by decide)
    replace hs := hs.loc0 st213 (by decide)
    obtain ⟨q214, H⟩ := ifS H
    obtain ⟨ad215, hAad215⟩ := RdC.addr (Wr.rd f160.now) q214
    have hk_C := hk
    have f160_C := f160
    subst hAad215
    have hk := hk_C
    clear hk_C
    have f160 := f160_C
    clear f160_C
    obtain ⟨q216, H⟩ := ifS H
    refine xd_take tab hk (k := 1) (is := [0, 1, 2, 3, 4, 5, 6, 7, 8, 9, 10, 11, 12]) (ls' := #[true, true, true, true, true, true, true, true, true, true, true, true, true, false]) (lv := [.int .u8 (rdD 0 l159 (IntKind.wrap .i64 (Int.tdiv x162 8)))]) (ks := [2, 7, 8, 39, 40]) (e' := [(2, .int .u32 x156), (7, .slice (some ad215) (l159).length c158), (8, .int .i64 x162), (39, .int .u8 (bits .xor .u8 (rdD 0 l159 (IntKind.wrap .i64 (Int.tdiv x162 8))) (IntKind.wrap .u8 ((IntKind.wrap .u8 (bits .and .u32 x156 1)) * 2 ^ min (Int.toNat (Int.tmod x162 8)) 8)))), (40, .pointer (some (ad215.add (Int.toNat (IntKind.wrap .i64 (Int.tdiv x162 8)) * 1))))]) (by kernel_rfl) rfl rfl (by kernel_rfl) (np_then (np_blk (np_then (np_then (np_blk (np_then np_body)))))) ⟨f160.now, trivial⟩ (fun W_ hS => ⟨(show (8 : Int) ≠ 0 from by decide), q214, (load1 tab rfl (RdC.at0 (E := (encInt .u8)) (d := 0) (i := (IntKind.wrap .i64 (Int.tdiv x162 8))) (Wr.rd hS.1) q214 rfl)), (show (8 : Int) ≠ 0 from by decide), q216, q214, trivial⟩) fun a hk => ?_
    refine xd_op hk (i := 13) (by kernel_rfl) rfl rfl ?_
    refine op_storeW tab hk (E := (encInt .u8)) (i := (IntKind.wrap .i64 (Int.tdiv x162 8))) (j := 0) (dx := 0) (y' := (bits .xor .u8 (rdD 0 l159 (IntKind.wrap .i64 (Int.tdiv x162 8))) (IntKind.wrap .u8 ((IntKind.wrap .u8 (bits .and .u32 x156 1)) * 2 ^ min (Int.toNat (Int.tmod x162 8)) 8)))) rfl rfl rfl f160 rfl q214 rfl rfl rfl rfl fun w217 o218 st219 f160_ => ?_
    replace hs := hs.loc0 st219 (by decide)
    replace f160 := f160_
    have hl220 : (List.set l159 (Int.toNat (IntKind.wrap .i64 (Int.tdiv x162 8))) (bits .xor .u8 (rdD 0 l159 (IntKind.wrap .i64 (Int.tdiv x162 8))) (IntKind.wrap .u8 ((IntKind.wrap .u8 (bits .and .u32 x156 1)) * 2 ^ min (Int.toNat (Int.tmod x162 8)) 8)))).length = (l159).length := List.length_set
    replace hk := Kn.re hk [2, 7, 8, 39] (e2 := [(2, .int .u32 x156), (7, .slice (some ad215) ((List.set l159 (Int.toNat (IntKind.wrap .i64 (Int.tdiv x162 8))) (bits .xor .u8 (rdD 0 l159 (IntKind.wrap .i64 (Int.tdiv x162 8))) (IntKind.wrap .u8 ((IntKind.wrap .u8 (bits .and .u32 x156 1)) * 2 ^ min (Int.toNat (Int.tmod x162 8)) 8))))).length c158), (8, .int .i64 x162), (39, .int .u8 (bits .xor .u8 (rdD 0 l159 (IntKind.wrap .i64 (Int.tdiv x162 8))) (IntKind.wrap .u8 ((IntKind.wrap .u8 (bits .and .u32 x156 1)) * 2 ^ min (Int.toNat (Int.tmod x162 8)) 8))))]) rfl (by rw [hl220])
    refine ⟨.inl (by kernel_rfl), ?_⟩
    refine xd_done (by kernel_rfl) ?_
    refine then_n ?_
    refine wpIn_region_lit ?_
    refine x_run tab hk (k := 3) (lv := []) (ks := [2, 7, 8]) (e' := [(2, .int .u32 (Int.fdiv x156 (2 ^ min (Int.toNat 1) 32))), (7, .slice (some ad215) ((List.set l159 (Int.toNat (IntKind.wrap .i64 (Int.tdiv x162 8))) (bits .xor .u8 (rdD 0 l159 (IntKind.wrap .i64 (Int.tdiv x162 8))) (IntKind.wrap .u8 ((IntKind.wrap .u8 (bits .and .u32 x156 1)) * 2 ^ min (Int.toNat (Int.tmod x162 8)) 8))))).length c158), (8, .int .i64 x162)]) rfl ⟨(show 0 ≤ (1 : Int) from by decide), trivial⟩ fun a hk => ?_
    refine wpListIn_nil ?_
    refine blk_n ?_
    refine then_n ?_
    refine wpIn_region_lit ?_
    refine x_run tab hk (k := 3) (lv := []) (ks := [2, 7, 8]) (e' := [(2, .int .u32 (Int.fdiv x156 (2 ^ min (Int.toNat 1) 32))), (7, .slice (some ad215) ((List.set l159 (Int.toNat (IntKind.wrap .i64 (Int.tdiv x162 8))) (bits .xor .u8 (rdD 0 l159 (IntKind.wrap .i64 (Int.tdiv x162 8))) (IntKind.wrap .u8 ((IntKind.wrap .u8 (bits .and .u32 x156 1)) * 2 ^ min (Int.toNat (Int.tmod x162 8)) 8))))).length c158), (8, .int .i64 (IntKind.wrap .i64 (x162 + 1)))]) rfl trivial fun a hk => ?_
    refine wpListIn_nil ?_
    refine then_n ?_
    exact ⟨k192, Nat.le_refl _, (fun b_ => (fun l_ => if l_ = 12 then 10 else l_) (o218 b_)), (Int.fdiv x156 (2 ^ min (Int.toNat 1) 32)), (some ad215), c158, (List.set l159 (Int.toNat (IntKind.wrap .i64 (Int.tdiv x162 8))) (bits .xor .u8 (rdD 0 l159 (IntKind.wrap .i64 (Int.tdiv x162 8))) (IntKind.wrap .u8 ((IntKind.wrap .u8 (bits .and .u32 x156 1)) * 2 ^ min (Int.toNat (Int.tmod x162 8)) 8)))), (IntKind.wrap .i64 (x162 + 1)), (by exact Kn.pick (ks := [2, 7, 8]) hk rfl), (hs.relab0 (fun l_ => if l_ = 12 then 10 else l_) rfl), (f160.relab (fun l_ => if l_ = 12 then 10 else l_) rfl), (by rw [List.length_set]; exact hc161), (hlp194 ▸ H)⟩
  refine x_seq ?_
  refine wpIn_region_lit ?_
  refine x_run tab hk (k := 3) (lv := []) (ks := [2, 7, 8, 19]) (e' := [(2, .int .u32 x156), (7, .slice A157 (l159).length c158), (8, .int .i64 x162), (19, .bool (x156 != (0 : Int)))]) rfl trivial fun a hk => ?_
  cases b221 : (x156 != (0 : Int))
  · rw [b221] at hk H
    replace H := bifF H
    refine x_run tab hk (k := 6) (lv := []) (ks := [2, 7, 8, 25]) (e' := [(2, .int .u32 x156), (7, .slice A157 (l159).length c158), (8, .int .i64 x162), (25, .bool false)]) rfl trivial fun a hk => ?_
    refine wpListIn_nil ?_
    refine then_n ?_
    refine x_if hk (b := false) rfl ?_
    refine (show Code.wpIn _ _ _ _ _ _ _ from ?_)
    refine wpIn_exit ?_
    refine then_x ?_
    refine then_x ?_
    refine blk_x ?_
    refine then_n ?_
    exact ⟨(fun b_ => (fun l_ => if l_ = 10 then 7 else l_) (o155 b_)), A157, c158, l159, (by exact Kn.pick (ks := [7]) hk rfl), (hs.relab0 (fun l_ => if l_ = 10 then 7 else l_) rfl), (f160.relab (fun l_ => if l_ = 10 then 7 else l_) rfl), hc161, H⟩
  · rw [b221] at hk H
    replace H := bifT H
    refine x_run tab hk (k := 6) (lv := []) (ks := [2, 7, 8, 25]) (e' := [(2, .int .u32 x156), (7, .slice A157 (l159).length c158), (8, .int .i64 x162), (25, .bool (decide (x162 < (IntKind.wrap .i64 (8 * ((l159).length : Int))))))]) rfl trivial fun a hk => ?_
    refine wpListIn_nil ?_
    refine then_n ?_
    cases b222 : (decide (x162 < (IntKind.wrap .i64 (8 * ((l159).length : Int)))))
    · rw [b222] at hk H
      replace H := bifF H
      refine x_if hk (b := false) rfl ?_
      refine (show Code.wpIn _ _ _ _ _ _ _ from ?_)
      refine wpIn_exit ?_
      refine then_x ?_
      refine then_x ?_
      refine blk_x ?_
      refine then_n ?_
      exact ⟨(fun b_ => (fun l_ => if l_ = 10 then 7 else l_) (o155 b_)), A157, c158, l159, (by exact Kn.pick (ks := [7]) hk rfl), (hs.relab0 (fun l_ => if l_ = 10 then 7 else l_) rfl), (f160.relab (fun l_ => if l_ = 10 then 7 else l_) rfl), hc161, H⟩
    · rw [b222] at hk H
      replace H := bifT H
      refine x_if hk (b := true) rfl ?_
      refine (show Code.wpIn _ _ _ _ _ _ _ from ?_)
      refine wpIn_skip ?_
      refine then_n ?_
      exact ⟨(fun b_ => (fun l_ => if l_ = 10 then 12 else l_) (o155 b_)), (by exact Kn.pick (ks := [2, 7, 8]) hk rfl), (hs.relab0 (fun l_ => if l_ = 10 then 12 else l_) rfl), (f160.relab (fun l_ => if l_ = 10 then 12 else l_) rfl), H⟩

/-! (*tidewrack/net.Net).Turn -/
theorem net_Net_Turn_calls (K : Nat) (bp0 : Nat) (Ap0_0 : Option Addr) (cp0_0 : Nat) (p0 : T55) (p1 : Int) (p2 : Int) (p3 : Int) (w : World) (o : Nat → Nat) (Lp0 : Nat) (hp0 : Ft (Bx bp0 56 [.int .i64 p0.most, .int .i64 p0.lost, .slice Ap0_0 (p0.l).length cp0_0]) w o Lp0) (Lp0_0 : Nat) (hp0_0 : Ft (Own ET28 29 (.slice Ap0_0 (p0.l).length cp0_0) p0.l) w o Lp0_0) (hcp0_0 : (p0.l).length ≤ cp0_0) (hd0 : ([Lp0, Lp0_0] : List Nat).Nodup) (r : Bool × T55) (H : net_Net_Turn K p0 p1 p2 p3 = some r) :
    Calls Try.prog 17 #[.pointer (some ⟨bp0, 0, none⟩), .int .i64 p1, .int .i64 p2, .int .u32 p3] w (Ret fun v_ w' => ∃ o' : Nat → Nat, ∃ A0 : Option Addr, ∃ c0 : Nat, v_ = .bool r.1 ∧ St [Lp0, Lp0_0] w o w' o' ∧ Ft (Bx bp0 56 [.int .i64 r.2.most, .int .i64 r.2.lost, .slice A0 (r.2.l).length c0]) w' o' Lp0 ∧ Ft (Own ET28 29 (.slice A0 (r.2.l).length c0) (r.2.l)) w' o' Lp0_0 ∧ (r.2.l).length ≤ c0) := by
  refine x_enter (vs := [.pointer (some ⟨bp0, 0, none⟩), .int .i64 p1, .int .i64 p2, .int .u32 p3]) Try.func17 rfl rfl rfl fun a hk => ?_
  obtain ⟨oi, hs0, h0, h1, hob, hoz, hoa⟩ := St.startM2 w o (m := 2) hd0 rfl
  have hs := hs0 [1, 2]
  have hom := lab_in hob (MM := [1, 2]) (by decide)
  have f900000 := h1 1 2 hp0_0 rfl rfl
  have f900019 := h1 0 1 hp0 rfl rfl
  clear h0 h1 hs0
  rw [net_Net_Turn] at H
  refine x_seq ?_
  refine wpIn_region_lit ?_
  refine x_run tab hk (k := 1) (lv := []) (ks := [0, 1, 2, 3]) (e' := [(0, .pointer (some ⟨bp0, 0, none⟩)), (1, .int .i64 p1), (2, .int .i64 p2), (3, .int .u32 p3)]) rfl trivial fun a hk => ?_
  refine wpListIn_nil ?_
  refine then_n ?_
  refine x_seq ?_
  refine x_seq ?_
  refine wpIn_region_lit ?_
  refine x_run tab hk (k := 2) (lv := []) (ks := [0, 1, 2, 3, 9, 10]) (e' := [(0, .pointer (some ⟨bp0, 0, none⟩)), (1, .int .i64 p1), (2, .int .i64 p2), (3, .int .u32 p3), (9, .pointer (some ⟨bp0, 0, none⟩)), (10, .int .i64 p1)]) rfl trivial fun a hk => ?_
  refine x_op hk rfl ?_
  obtain ⟨t4, hc5, H⟩ := bindS H
  refine op_call hk ent_23 (vs := [.pointer (some ⟨bp0, 0, none⟩), .int .i64 p1]) rfl (net_Net_is_calls bp0 Ap0_0 cp0_0 p0 p1 _ oi 1 f900019 _ (f900000.imp fun _ h_ => Own.rd h_) hcp0_0   _ hc5) ?_
  rintro _ w6 ⟨o7, rfl, st8⟩
  replace f900000 := f900000.st st8 (by decide)
  replace f900019 := f900019.st st8 (by decide)
  replace hs := hs.locM st8 (by decide) hom
  have hk := hk.put 11 (.bool t4) rfl
  refine x_run tab hk (k := 1) (lv := []) (ks := [0, 1, 2, 3, 12]) (e' := [(0, .pointer (some ⟨bp0, 0, none⟩)), (1, .int .i64 p1), (2, .int .i64 p2), (3, .int .u32 p3), (12, .bool (!t4))]) rfl trivial fun a hk => ?_
  refine wpListIn_nil ?_
  refine then_n ?_
  cases b9 : (!t4)
  · rw [b9] at hk H
    replace H := bifF H
    refine x_if hk (b := false) rfl ?_
    refine (show Code.wpIn _ _ _ _ _ _ _ from ?_)
    refine wpIn_skip ?_
    refine then_n ?_
    refine x_seq ?_
    refine x_cut (fun a_ w_ => ∃ o180 : Nat → Nat, ∃ A181 : Option Addr, ∃ c182 : Nat, ∃ l183 : List T28, Kn 31 a_ [] ∧ St [1, 2] w oi w_ o180 ∧ Ft (Own ET28 29 (.slice A181 (l183).length c182) l183) w_ o180 2 ∧ Ft (Bx bp0 56 [.int .i64 p0.most, .int .i64 p0.lost, .slice A181 (l183).length c182]) w_ o180 1 ∧ (l183).length ≤ c182 ∧ net_Net_Turn_j1 p0 l183 = some r) ?_ ?_
    rotate_left
    · rintro a w186 ⟨o180, A181, c182, l183, hk, hs, f184, f900019, hc185, H⟩
      rw [net_Net_Turn_j1] at H
      refine then_n ?_
      refine x_seq ?_
      refine wpIn_region_lit ?_
      refine x_run tab hk (k := 1) (lv := []) (ks := [8]) (e' := [(8, .bool true)]) rfl trivial fun a hk => ?_
      refine wpListIn_nil ?_
      refine then_n ?_
      refine wpIn_ret ?_
      obtain rfl := Option.some.inj H
      exact x_retG hk (rs := [.tmp 8]) (vs := [.bool true]) rfl ⟨rfl, trivial⟩ ⟨fun b_ => if b_ < w.heap.size then o b_ else (fun l_ => if l_ = 1 then Lp0 else if l_ = 2 then Lp0_0 else 0) (o180 b_), A181, c182, rfl, hs.closeM hoz (by decide) (fun l_ => if l_ = 1 then Lp0 else if l_ = 2 then Lp0_0 else 0), hs.closeM_ft (o := o) (ρ := fun l_ => if l_ = 1 then Lp0 else if l_ = 2 then Lp0_0 else 0) f900019 (lab_at hoa (i := 0) rfl) rfl, hs.closeM_ft (o := o) (ρ := fun l_ => if l_ = 1 then Lp0 else if l_ = 2 then Lp0_0 else 0) f184 (lab_at hoa (i := 1) rfl) rfl, hc185⟩
    obtain ⟨q201, H⟩ := ifS H
    obtain ⟨ad202, hAad202⟩ := RdC.addr (Own.rd f900000.now) q201
    have hk_C := hk
    have f900000_C := f900000
    have f900019_C := f900019
    subst hAad202
    have hk := hk_C
    clear hk_C
    have f900000 := f900000_C
    clear f900000_C
    have f900019 := f900019_C
    clear f900019_C
    obtain ⟨t206, hc207, H⟩ := bindS H
    refine xd_begin (o := o7) (fun W_ => True) mixed rfl rfl fun w255 st256 => ?_
    replace f900000 := f900000.st st256 (by decide)
    replace f900019 := f900019.st st256 (by decide)
    replace hs := hs.locM st256 (by decide) hom
    refine xd_abs fun G hG => ?_
    have N262 : ∀ (a_ : Act) (w_ : World), (∃ o260 : Nat → Nat, Kn 31 a_ [(16, .slice (some ad202) (p0.l).length cp0_0), (17, .int .i64 p1), (20, .pointer (some ((⟨bp0, 0, none⟩ : Addr).add 2))), (22, .int .i64 p1), (26, .int .i64 p2), (27, .int .u32 p3)] ∧ St [1, 2] w oi w_ o260 ∧ Ft (Own ET28 29 (.slice (some ad202) (p0.l).length cp0_0) p0.l) w_ o260 2 ∧ Ft (Bx bp0 56 [.int .i64 p0.most, .int .i64 p0.lost, .slice (some ad202) (p0.l).length cp0_0]) w_ o260 1) → G 8 #[true, true, true, true, true, true, true, true, false, true, false, false, false, true, true, false, false, false, false] a_ w_ := by
      rintro a w261 ⟨o260, hk, hs, f900000, f900019⟩
      refine xd_of hG ?_
      refine xd_op hk (i := 8) (by kernel_rfl) rfl rfl ?_
      refine op_quiet tab hk (lv := [.slice (some ad202) (p0.l).length cp0_0]) (v := .slice (some ad202) (p0.l).length cp0_0) rfl ⟨(load1 tab rfl ((Bx.cell f900019.now 2).trans rfl)), trivial⟩ ?_
      have hk := hk.put 21 (.slice (some ad202) (p0.l).length cp0_0) rfl
      refine ⟨.inr trivial, ?_⟩
      refine xd_take tab hk (k := 5) (is := [10, 11]) (ls' := #[true, true, true, true, true, true, true, true, true, true, true, true, false, true, true, false, false, false, false]) (lv := []) (ks := [16, 17, 24, 26, 27]) (e' := [(16, .slice (some ad202) (p0.l).length cp0_0), (17, .int .i64 p1), (24, .pointer (some ((ad202.add (Int.toNat p1 * 3)).add 2))), (26, .int .i64 p2), (27, .int .u32 p3)]) (by kernel_rfl) rfl rfl (by kernel_rfl) (np_then (np_then np_body)) trivial (fun W_ hS => ⟨q201, trivial⟩) fun a hk => ?_
      refine xd_op hk (i := 12) (by kernel_rfl) rfl rfl ?_
      refine op_quiet tab hk (lv := [.string ((rdD zT28 p0.l p1).Data)]) (v := .string ((rdD zT28 p0.l p1).Data)) rfl ⟨(load1 tab rfl (RdC.at (E := ET28) (d := zT28) (i := p1) (j := 2) (Own.rd f900000.now) q201 rfl)), trivial⟩ ?_
      have hk := hk.put 25 (.string ((rdD zT28 p0.l p1).Data)) rfl
      refine ⟨.inr trivial, ?_⟩
      refine xd_op hk (i := 15) (by kernel_rfl) rfl rfl ?_
      refine op_call hk ent_25 (vs := [.string ((rdD zT28 p0.l p1).Data), .int .i64 p2, .int .u32 p3]) rfl (sum_Turn_calls K ((rdD zT28 p0.l p1).Data) p2 p3 _ o260    _ hc207) ?_
      rintro _ w266 ⟨o267, rfl, st268⟩
      replace f900000 := f900000.st st268 (by decide)
      replace f900019 := f900019.st st268 (by decide)
      replace hs := hs.locM st268 (by decide) hom
      have hk := hk.put 28 (.string t206) rfl
      refine ⟨.inr trivial, ?_⟩
      refine xd_take tab hk (k := 1) (is := [16, 17]) (ls' := #[true, true, true, true, true, true, true, true, true, true, true, true, true, true, true, true, true, true, false]) (lv := []) (ks := [28, 30]) (e' := [(28, .string t206), (30, .pointer (some ((ad202.add (Int.toNat p1 * 3)).add 2)))]) (by kernel_rfl) rfl rfl (by kernel_rfl) (np_then (np_then np_body)) trivial (fun W_ hS => ⟨q201, trivial⟩) fun a hk => ?_
      refine xd_op hk (i := 18) (by kernel_rfl) rfl rfl ?_
      refine op_storeO tab hk (E := ET28) (i := p1) (j := 2) (dx := zT28) (y' := (⟨(rdD zT28 p0.l p1).From, (rdD zT28 p0.l p1).To, t206⟩ : T28)) rfl rfl rfl f900000 rfl q201 rfl rfl rfl rfl fun w269 o270 st271 f900000_ => ?_
      replace f900019 := f900019.st st271 (by decide)
      replace hs := hs.locM st271 (by decide) hom
      replace f900000 := f900000_
      have hl272 : (List.set p0.l (Int.toNat p1) (⟨(rdD zT28 p0.l p1).From, (rdD zT28 p0.l p1).To, t206⟩ : T28)).length = (p0.l).length := List.length_set
      replace hk := Kn.re hk [28] (e2 := [(28, .string t206)]) rfl rfl
      replace f900019 : Ft (Bx bp0 56 [.int .i64 p0.most, .int .i64 p0.lost, .slice (some ad202) ((List.set p0.l (Int.toNat p1) (⟨(rdD zT28 p0.l p1).From, (rdD zT28 p0.l p1).To, t206⟩ : T28))).length cp0_0]) w269 o270 1 := by rw [hl272]; exact f900019
      refine ⟨.inr trivial, ?_⟩
      refine xd_done (by kernel_rfl) ?_
      refine then_n ?_
      exact ⟨o270, (some ad202), cp0_0, (List.set p0.l (Int.toNat p1) (⟨(rdD zT28 p0.l p1).From, (rdD zT28 p0.l p1).To, t206⟩ : T28)), (by exact Kn.pick (ks := []) hk rfl), hs, f900000, f900019, (by rw [List.length_set]; exact hcp0_0), H⟩
    have N284 : ∀ (a_ : Act) (w_ : World), (∃ o282 : Nat → Nat, Kn 31 a_ [(16, .slice (some ad202) (p0.l).length cp0_0), (17, .int .i64 p1), (24, .pointer (some ((ad202.add (Int.toNat p1 * 3)).add 2))), (26, .int .i64 p2), (27, .int .u32 p3)] ∧ St [1, 2] w oi w_ o282 ∧ Ft (Own ET28 29 (.slice (some ad202) (p0.l).length cp0_0) p0.l) w_ o282 2 ∧ Ft (Bx bp0 56 [.int .i64 p0.most, .int .i64 p0.lost, .slice (some ad202) (p0.l).length cp0_0]) w_ o282 1) → G 5 #[true, true, true, true, true, true, true, true, true, true, true, true, false, true, true, false, false, false, false] a_ w_ := by
      rintro a w283 ⟨o282, hk, hs, f900000, f900019⟩
      refine xd_of hG ?_
      refine xd_op hk (i := 12) (by kernel_rfl) rfl rfl ?_
      refine op_quiet tab hk (lv := [.string ((rdD zT28 p0.l p1).Data)]) (v := .string ((rdD zT28 p0.l p1).Data)) rfl ⟨(load1 tab rfl (RdC.at (E := ET28) (d := zT28) (i := p1) (j := 2) (Own.rd f900000.now) q201 rfl)), trivial⟩ ?_
      have hk := hk.put 25 (.string ((rdD zT28 p0.l p1).Data)) rfl
      refine ⟨.inr trivial, ?_⟩
      refine xd_op hk (i := 15) (by kernel_rfl) rfl rfl ?_
      refine op_call hk ent_25 (vs := [.string ((rdD zT28 p0.l p1).Data), .int .i64 p2, .int .u32 p3]) rfl (sum_Turn_calls K ((rdD zT28 p0.l p1).Data) p2 p3 _ o282    _ hc207) ?_
      rintro _ w288 ⟨o289, rfl, st290⟩
      replace f900000 := f900000.st st290 (by decide)
      replace f900019 := f900019.st st290 (by decide)
      replace hs := hs.locM st290 (by decide) hom
      have hk := hk.put 28 (.string t206) rfl
      refine ⟨.inr trivial, ?_⟩
      refine xd_take tab hk (k := 1) (is := [16, 17]) (ls' := #[true, true, true, true, true, true, true, true, true, true, true, true, true, true, true, true, true, true, false]) (lv := []) (ks := [28, 30]) (e' := [(28, .string t206), (30, .pointer (some ((ad202.add (Int.toNat p1 * 3)).add 2)))]) (by kernel_rfl) rfl rfl (by kernel_rfl) (np_then (np_then np_body)) trivial (fun W_ hS => ⟨q201, trivial⟩) fun a hk => ?_
      refine xd_op hk (i := 18) (by kernel_rfl) rfl rfl ?_
      refine op_storeO tab hk (E := ET28) (i := p1) (j := 2) (dx := zT28) (y' := (⟨(rdD zT28 p0.l p1).From, (rdD zT28 p0.l p1).To, t206⟩ : T28)) rfl rfl rfl f900000 rfl q201 rfl rfl rfl rfl fun w291 o292 st293 f900000_ => ?_
      replace f900019 := f900019.st st293 (by decide)
      replace hs := hs.locM st293 (by decide) hom
      replace f900000 := f900000_
      have hl294 : (List.set p0.l (Int.toNat p1) (⟨(rdD zT28 p0.l p1).From, (rdD zT28 p0.l p1).To, t206⟩ : T28)).length = (p0.l).length := List.length_set
      replace hk := Kn.re hk [28] (e2 := [(28, .string t206)]) rfl rfl
      replace f900019 : Ft (Bx bp0 56 [.int .i64 p0.most, .int .i64 p0.lost, .slice (some ad202) ((List.set p0.l (Int.toNat p1) (⟨(rdD zT28 p0.l p1).From, (rdD zT28 p0.l p1).To, t206⟩ : T28))).length cp0_0]) w291 o292 1 := by rw [hl294]; exact f900019
      refine ⟨.inr trivial, ?_⟩
      refine xd_done (by kernel_rfl) ?_
      refine then_n ?_
      exact ⟨o292, (some ad202), cp0_0, (List.set p0.l (Int.toNat p1) (⟨(rdD zT28 p0.l p1).From, (rdD zT28 p0.l p1).To, t206⟩ : T28)), (by exact Kn.pick (ks := []) hk rfl), hs, f900000, f900019, (by rw [List.length_set]; exact hcp0_0), H⟩
    have N306 : ∀ (a_ : Act) (w_ : World), (∃ o304 : Nat → Nat, Kn 31 a_ [(16, .slice (some ad202) (p0.l).length cp0_0), (17, .int .i64 p1), (25, .string ((rdD zT28 p0.l p1).Data)), (26, .int .i64 p2), (27, .int .u32 p3)] ∧ St [1, 2] w oi w_ o304 ∧ Ft (Own ET28 29 (.slice (some ad202) (p0.l).length cp0_0) p0.l) w_ o304 2 ∧ Ft (Bx bp0 56 [.int .i64 p0.most, .int .i64 p0.lost, .slice (some ad202) (p0.l).length cp0_0]) w_ o304 1) → G 4 #[true, true, true, true, true, true, true, true, true, true, true, true, true, true, true, false, false, false, false] a_ w_ := by
      rintro a w305 ⟨o304, hk, hs, f900000, f900019⟩
      refine xd_of hG ?_
      refine xd_op hk (i := 15) (by kernel_rfl) rfl rfl ?_
      refine op_call hk ent_25 (vs := [.string ((rdD zT28 p0.l p1).Data), .int .i64 p2, .int .u32 p3]) rfl (sum_Turn_calls K ((rdD zT28 p0.l p1).Data) p2 p3 _ o304    _ hc207) ?_
      rintro _ w310 ⟨o311, rfl, st312⟩
      replace f900000 := f900000.st st312 (by decide)
      replace f900019 := f900019.st st312 (by decide)
      replace hs := hs.locM st312 (by decide) hom
      have hk := hk.put 28 (.string t206) rfl
      refine ⟨.inr trivial, ?_⟩
      refine xd_take tab hk (k := 1) (is := [16, 17]) (ls' := #[true, true, true, true, true, true, true, true, true, true, true, true, true, true, true, true, true, true, false]) (lv := []) (ks := [28, 30]) (e' := [(28, .string t206), (30, .pointer (some ((ad202.add (Int.toNat p1 * 3)).add 2)))]) (by kernel_rfl) rfl rfl (by kernel_rfl) (np_then (np_then np_body)) trivial (fun W_ hS => ⟨q201, trivial⟩) fun a hk => ?_
      refine xd_op hk (i := 18) (by kernel_rfl) rfl rfl ?_
      refine op_storeO tab hk (E := ET28) (i := p1) (j := 2) (dx := zT28) (y' := (⟨(rdD zT28 p0.l p1).From, (rdD zT28 p0.l p1).To, t206⟩ : T28)) rfl rfl rfl f900000 rfl q201 rfl rfl rfl rfl fun w313 o314 st315 f900000_ => ?_
      replace f900019 := f900019.st st315 (by decide)
      replace hs := hs.locM st315 (by decide) hom
      replace f900000 := f900000_
      have hl316 : (List.set p0.l (Int.toNat p1) (⟨(rdD zT28 p0.l p1).From, (rdD zT28 p0.l p1).To, t206⟩ : T28)).length = (p0.l).length := List.length_set
      replace hk := Kn.re hk [28] (e2 := [(28, .string t206)]) rfl rfl
      replace f900019 : Ft (Bx bp0 56 [.int .i64 p0.most, .int .i64 p0.lost, .slice (some ad202) ((List.set p0.l (Int.toNat p1) (⟨(rdD zT28 p0.l p1).From, (rdD zT28 p0.l p1).To, t206⟩ : T28))).length cp0_0]) w313 o314 1 := by rw [hl316]; exact f900019
      refine ⟨.inr trivial, ?_⟩
      refine xd_done (by kernel_rfl) ?_
      refine then_n ?_
      exact ⟨o314, (some ad202), cp0_0, (List.set p0.l (Int.toNat p1) (⟨(rdD zT28 p0.l p1).From, (rdD zT28 p0.l p1).To, t206⟩ : T28)), (by exact Kn.pick (ks := []) hk rfl), hs, f900000, f900019, (by rw [List.length_set]; exact hcp0_0), H⟩
    have N328 : ∀ (a_ : Act) (w_ : World), (∃ o326 : Nat → Nat, Kn 31 a_ [(15, .pointer (some ((⟨bp0, 0, none⟩ : Addr).add 2))), (17, .int .i64 p1), (28, .string t206)] ∧ St [1, 2] w oi w_ o326 ∧ Ft (Own ET28 29 (.slice (some ad202) (p0.l).length cp0_0) p0.l) w_ o326 2 ∧ Ft (Bx bp0 56 [.int .i64 p0.most, .int .i64 p0.lost, .slice (some ad202) (p0.l).length cp0_0]) w_ o326 1) → G 4 #[true, true, true, false, true, true, true, true, true, true, true, true, true, true, true, true, false, false, false] a_ w_ := by
      rintro a w327 ⟨o326, hk, hs, f900000, f900019⟩
      refine xd_of hG ?_
      refine xd_op hk (i := 3) (by kernel_rfl) rfl rfl ?_
      refine op_quiet tab hk (lv := [.slice (some ad202) (p0.l).length cp0_0]) (v := .slice (some ad202) (p0.l).length cp0_0) rfl ⟨(load1 tab rfl ((Bx.cell f900019.now 2).trans rfl)), trivial⟩ ?_
      have hk := hk.put 16 (.slice (some ad202) (p0.l).length cp0_0) rfl
      refine ⟨.inr trivial, ?_⟩
      refine xd_take tab hk (k := 1) (is := [16, 17]) (ls' := #[true, true, true, true, true, true, true, true, true, true, true, true, true, true, true, true, true, true, false]) (lv := []) (ks := [28, 30]) (e' := [(28, .string t206), (30, .pointer (some ((ad202.add (Int.toNat p1 * 3)).add 2)))]) (by kernel_rfl) rfl rfl (by kernel_rfl) (np_then (np_then np_body)) trivial (fun W_ hS => ⟨q201, trivial⟩) fun a hk => ?_
      refine xd_op hk (i := 18) (by kernel_rfl) rfl rfl ?_
      refine op_storeO tab hk (E := ET28) (i := p1) (j := 2) (dx := zT28) (y' := (⟨(rdD zT28 p0.l p1).From, (rdD zT28 p0.l p1).To, t206⟩ : T28)) rfl rfl rfl f900000 rfl q201 rfl rfl rfl rfl fun w329 o330 st331 f900000_ => ?_
      replace f900019 := f900019.st st331 (by decide)
      replace hs := hs.locM st331 (by decide) hom
      replace f900000 := f900000_
      have hl332 : (List.set p0.l (Int.toNat p1) (⟨(rdD zT28 p0.l p1).From, (rdD zT28 p0.l p1).To, t206⟩ : T28)).length = (p0.l).length := List.length_set
      replace hk := Kn.re hk [28] (e2 := [(28, .string t206)]) rfl rfl
      replace f900019 : Ft (Bx bp0 56 [.int .i64 p0.most, .int .i64 p0.lost, .slice (some ad202) ((List.set p0.l (Int.toNat p1) (⟨(rdD zT28 p0.l p1).From, (rdD zT28 p0.l p1).To, t206⟩ : T28))).length cp0_0]) w329 o330 1 := by rw [hl332]; exact f900019
      refine ⟨.inr trivial, ?_⟩
      refine xd_done (by kernel_rfl) ?_
      refine then_n ?_
      exact ⟨o330, (some ad202), cp0_0, (List.set p0.l (Int.toNat p1) (⟨(rdD zT28 p0.l p1).From, (rdD zT28 p0.l p1).To, t206⟩ : T28)), (by exact Kn.pick (ks := []) hk rfl), hs, f900000, f900019, (by rw [List.length_set]; exact hcp0_0), H⟩
    have N300 : ∀ (a_ : Act) (w_ : World), (∃ o298 : Nat → Nat, Kn 31 a_ [(15, .pointer (some ((⟨bp0, 0, none⟩ : Addr).add 2))), (17, .int .i64 p1), (25, .string ((rdD zT28 p0.l p1).Data)), (26, .int .i64 p2), (27, .int .u32 p3)] ∧ St [1, 2] w oi w_ o298 ∧ Ft (Own ET28 29 (.slice (some ad202) (p0.l).length cp0_0) p0.l) w_ o298 2 ∧ Ft (Bx bp0 56 [.int .i64 p0.most, .int .i64 p0.lost, .slice (some ad202) (p0.l).length cp0_0]) w_ o298 1) → G 5 #[true, true, true, false, true, true, true, true, true, true, true, true, true, true, true, false, false, false, false] a_ w_ := by
      rintro a w299 ⟨o298, hk, hs, f900000, f900019⟩
      refine xd_of hG ?_
      refine xd_each [3, 15] (by kernel_rfl) rfl ⟨?_, ?_, trivial⟩
      · refine xd_one hk rfl rfl ?_
        refine op_quiet tab hk (lv := [.slice (some ad202) (p0.l).length cp0_0]) (v := .slice (some ad202) (p0.l).length cp0_0) rfl ⟨(load1 tab rfl ((Bx.cell f900019.now 2).trans rfl)), trivial⟩ ?_
        have hk := hk.put 16 (.slice (some ad202) (p0.l).length cp0_0) rfl
        refine ⟨.inr trivial, ?_⟩
        exact xd_to hG rfl (N306 _ _ ⟨o298, (by exact Kn.pick (ks := [16, 17, 25, 26, 27]) hk rfl), hs, f900000, f900019⟩)
      · refine xd_one hk rfl rfl ?_
        refine op_call hk ent_25 (vs := [.string ((rdD zT28 p0.l p1).Data), .int .i64 p2, .int .u32 p3]) rfl (sum_Turn_calls K ((rdD zT28 p0.l p1).Data) p2 p3 _ o298    _ hc207) ?_
        rintro _ w320 ⟨o321, rfl, st322⟩
        replace f900000 := f900000.st st322 (by decide)
        replace f900019 := f900019.st st322 (by decide)
        replace hs := hs.locM st322 (by decide) hom
        have hk := hk.put 28 (.string t206) rfl
        refine ⟨.inr trivial, ?_⟩
        exact xd_to hG rfl (N328 _ _ ⟨o321, (by exact Kn.pick (ks := [15, 17, 28]) hk rfl), hs, f900000, f900019⟩)
    have N278 : ∀ (a_ : Act) (w_ : World), (∃ o276 : Nat → Nat, Kn 31 a_ [(15, .pointer (some ((⟨bp0, 0, none⟩ : Addr).add 2))), (17, .int .i64 p1), (21, .slice (some ad202) (p0.l).length cp0_0), (22, .int .i64 p1), (26, .int .i64 p2), (27, .int .u32 p3)] ∧ St [1, 2] w oi w_ o276 ∧ Ft (Own ET28 29 (.slice (some ad202) (p0.l).length cp0_0) p0.l) w_ o276 2 ∧ Ft (Bx bp0 56 [.int .i64 p0.most, .int .i64 p0.lost, .slice (some ad202) (p0.l).length cp0_0]) w_ o276 1) → G 8 #[true, true, true, false, true, true, true, true, true, true, false, false, false, true, true, false, false, false, false] a_ w_ := by
      rintro a w277 ⟨o276, hk, hs, f900000, f900019⟩
      refine xd_of hG ?_
      refine xd_take tab hk (k := 6) (is := [10, 11]) (ls' := #[true, true, true, false, true, true, true, true, true, true, true, true, false, true, true, false, false, false, false]) (lv := []) (ks := [15, 17, 24, 26, 27]) (e' := [(15, .pointer (some ((⟨bp0, 0, none⟩ : Addr).add 2))), (17, .int .i64 p1), (24, .pointer (some ((ad202.add (Int.toNat p1 * 3)).add 2))), (26, .int .i64 p2), (27, .int .u32 p3)]) (by kernel_rfl) rfl rfl (by kernel_rfl) (np_then (np_then np_body)) trivial (fun W_ hS => ⟨q201, trivial⟩) fun a hk => ?_
      refine xd_each [3, 12] (by kernel_rfl) rfl ⟨?_, ?_, trivial⟩
      · refine xd_one hk rfl rfl ?_
        refine op_quiet tab hk (lv := [.slice (some ad202) (p0.l).length cp0_0]) (v := .slice (some ad202) (p0.l).length cp0_0) rfl ⟨(load1 tab rfl ((Bx.cell f900019.now 2).trans rfl)), trivial⟩ ?_
        have hk := hk.put 16 (.slice (some ad202) (p0.l).length cp0_0) rfl
        refine ⟨.inr trivial, ?_⟩
        exact xd_to hG rfl (N284 _ _ ⟨o276, (by exact Kn.pick (ks := [16, 17, 24, 26, 27]) hk rfl), hs, f900000, f900019⟩)
      · refine xd_one hk rfl rfl ?_
        refine op_quiet tab hk (lv := [.string ((rdD zT28 p0.l p1).Data)]) (v := .string ((rdD zT28 p0.l p1).Data)) rfl ⟨(load1 tab rfl (RdC.at (E := ET28) (d := zT28) (i := p1) (j := 2) (Own.rd f900000.now) q201 rfl)), trivial⟩ ?_
        have hk := hk.put 25 (.string ((rdD zT28 p0.l p1).Data)) rfl
        refine ⟨.inr trivial, ?_⟩
        exact xd_to hG rfl (N300 _ _ ⟨o276, (by exact Kn.pick (ks := [15, 17, 25, 26, 27]) hk rfl), hs, f900000, f900019⟩)
    refine xd_of hG ?_
    refine xd_take tab hk (k := 9) (is := [0, 1, 2, 4, 5, 6, 7, 9, 13, 14]) (ls' := #[true, true, true, false, true, true, true, true, false, true, false, false, false, true, true, false, false, false, false]) (lv := []) (ks := [15, 17, 20, 22, 26, 27]) (e' := [(15, .pointer (some ((⟨bp0, 0, none⟩ : Addr).add 2))), (17, .int .i64 p1), (20, .pointer (some ((⟨bp0, 0, none⟩ : Addr).add 2))), (22, .int .i64 p1), (26, .int .i64 p2), (27, .int .u32 p3)]) (by kernel_rfl) rfl rfl (by kernel_rfl) (np_then (np_then np_body)) trivial (fun W_ hS => trivial) fun a hk => ?_
    refine xd_each [3, 8] (by kernel_rfl) rfl ⟨?_, ?_, trivial⟩
    · refine xd_one hk rfl rfl ?_
      refine op_quiet tab hk (lv := [.slice (some ad202) (p0.l).length cp0_0]) (v := .slice (some ad202) (p0.l).length cp0_0) rfl ⟨(load1 tab rfl ((Bx.cell f900019.now 2).trans rfl)), trivial⟩ ?_
      have hk := hk.put 16 (.slice (some ad202) (p0.l).length cp0_0) rfl
      refine ⟨.inr trivial, ?_⟩
      exact xd_to hG rfl (N262 _ _ ⟨o7, (by exact Kn.pick (ks := [16, 17, 20, 22, 26, 27]) hk rfl), hs, f900000, f900019⟩)
    · refine xd_one hk rfl rfl ?_
      refine op_quiet tab hk (lv := [.slice (some ad202) (p0.l).length cp0_0]) (v := .slice (some ad202) (p0.l).length cp0_0) rfl ⟨(load1 tab rfl ((Bx.cell f900019.now 2).trans rfl)), trivial⟩ ?_
      have hk := hk.put 21 (.slice (some ad202) (p0.l).length cp0_0) rfl
      refine ⟨.inr trivial, ?_⟩
      exact xd_to hG rfl (N278 _ _ ⟨o7, (by exact Kn.pick (ks := [15, 17, 21, 22, 26, 27]) hk rfl), hs, f900000, f900019⟩)
  · rw [b9] at hk H
    replace H := bifT H
    refine x_if hk (b := true) rfl ?_
    refine (show Code.wpIn _ _ _ _ _ _ _ from ?_)
    refine x_seq ?_
    refine wpIn_region_lit ?_
    refine x_run tab hk (k := 1) (lv := []) (ks := [8]) (e' := [(8, .bool false)]) rfl trivial fun a hk => ?_
    refine wpListIn_nil ?_
    refine then_n ?_
    refine wpIn_ret ?_
    refine then_r ?_
    obtain rfl := Option.some.inj H
    exact x_retG hk (rs := [.tmp 8]) (vs := [.bool false]) rfl ⟨rfl, trivial⟩ ⟨fun b_ => if b_ < w.heap.size then o b_ else (fun l_ => if l_ = 1 then Lp0 else if l_ = 2 then Lp0_0 else 0) (o7 b_), Ap0_0, cp0_0, rfl, hs.closeM hoz (by decide) (fun l_ => if l_ = 1 then Lp0 else if l_ = 2 then Lp0_0 else 0), hs.closeM_ft (o := o) (ρ := fun l_ => if l_ = 1 then Lp0 else if l_ = 2 then Lp0_0 else 0) f900019 (lab_at hoa (i := 0) rfl) rfl, hs.closeM_ft (o := o) (ρ := fun l_ => if l_ = 1 then Lp0 else if l_ = 2 then Lp0_0 else 0) f900000 (lab_at hoa (i := 1) rfl) rfl, hcp0_0⟩

/-! tidewrack/tidewracklaw25.NetCounts -/
set_option maxHeartbeats 4000000 in
theorem tidewracklaw25_NetCounts_calls (K : Nat) (p0 : Int) (Ap1 : Option Addr) (cp1 : Nat) (p1 : List T40) (w : World) (o : Nat → Nat) (Lp1 : Nat) (hp1 : Ft (RdC ET40 Ap1 p1) w o Lp1) (hcp1 : (p1).length ≤ cp1)  (r : Bool) (H : tidewracklaw25_NetCounts K p0 p1 = some r) :
    Calls Try.prog 4 #[.int .i64 p0, .slice Ap1 (p1).length cp1] w (Ret fun v_ w' => ∃ o' : Nat → Nat, v_ = .bool r ∧ St [] w o w' o') := by
  refine x_enter (vs := [.int .i64 p0, .slice Ap1 (p1).length cp1]) Try.func4 rfl rfl rfl fun a hk => ?_
  obtain ⟨o0, hs, h0⟩ := St.start w o
  have f900020 := h0 _ _ hp1
  clear h0
  rw [tidewracklaw25_NetCounts] at H
  refine x_seq ?_
  refine wpIn_region_lit ?_
  refine x_run tab hk (k := 1) (lv := []) (ks := [0, 1]) (e' := [(0, .int .i64 p0), (1, .slice Ap1 (p1).length cp1)]) rfl trivial fun a hk => ?_
  refine wpListIn_nil ?_
  refine then_n ?_
  refine x_seq ?_
  refine x_seq ?_
  refine wpIn_region_lit ?_
  refine x_op hk rfl ?_
  obtain ⟨t4, hc5, H⟩ := bindS H
  refine op_call hk ent_6 (vs := []) rfl (tidewracklaw25_awake_calls K  _ o0    _ hc5) ?_
  rintro _ w6 ⟨o7, rfl, st8⟩
  replace f900020 := f900020.st st8 (by decide)
  replace hs := hs.loc0 st8 (by decide)
  have hk := hk.put 13 (.bool t4) rfl
  refine x_run tab hk (k := 1) (lv := []) (ks := [0, 1, 14]) (e' := [(0, .int .i64 p0), (1, .slice Ap1 (p1).length cp1), (14, .bool (!t4))]) rfl trivial fun a hk => ?_
  refine wpListIn_nil ?_
  refine then_n ?_
  cases b9 : (!t4)
  · rw [b9] at hk H
    replace H := bifF H
    refine x_if hk (b := false) rfl ?_
    refine (show Code.wpIn _ _ _ _ _ _ _ from ?_)
    refine wpIn_skip ?_
    refine then_n ?_
    refine x_seq ?_
    refine wpIn_region_lit ?_
    refine x_run tab hk (k := 1) (lv := []) (ks := [1, 15]) (e' := [(1, .slice Ap1 (p1).length cp1), (15, .int .i64 p0)]) rfl trivial fun a hk => ?_
    refine x_op hk rfl ?_
    obtain ⟨t13, hc14, H⟩ := bindS H
    refine op_call hk ent_7 (vs := [.int .i64 p0]) rfl (net_New_calls p0 _ o7  1 2  _ hc14) ?_
    rintro _ w15 ⟨o16, bx18, A20, c21, rfl, st17, f19, f22, hc23⟩
    replace f900020 := f900020.st st17 (by decide)
    replace hs := hs.loc0 st17 (by decide)
    have hk := hk.put 16 (.pointer (some ⟨bx18, 0, none⟩)) rfl
    refine x_run tab hk (k := 1) (lv := []) (ks := [1, 5]) (e' := [(1, .slice Ap1 (p1).length cp1), (5, .pointer (some ⟨bx18, 0, none⟩))]) rfl trivial fun a hk => ?_
    refine wpListIn_nil ?_
    refine then_n ?_
    refine x_seq ?_
    refine x_seq ?_
    refine wpIn_region_lit ?_
    refine x_run tab hk (k := 2) (lv := []) (ks := [1, 5, 18]) (e' := [(1, .slice Ap1 (p1).length cp1), (5, .pointer (some ⟨bx18, 0, none⟩)), (18, .bool false)]) rfl trivial fun a hk => ?_
    refine wpListIn_nil ?_
    refine then_n ?_
    refine x_if hk (b := false) rfl ?_
    refine (show Code.wpIn _ _ _ _ _ _ _ from ?_)
    refine wpIn_skip ?_
    refine then_n ?_
    refine x_seq ?_
    refine wpIn_region_lit ?_
    refine x_run tab hk (k := 2) (lv := []) (ks := [1, 5, 6, 7]) (e' := [(1, .slice Ap1 (p1).length cp1), (5, .pointer (some ⟨bx18, 0, none⟩)), (6, .int .i64 0), (7, .int .i64 0)]) rfl trivial fun a hk => ?_
    refine wpListIn_nil ?_
    refine then_n ?_
    refine x_mid (fun a_ w_ => ∃ o2196 : Nat → Nat, Kn 98 a_ [] ∧ St [] w (fun _ => 0) w_ o2196 ∧ tidewracklaw25_NetCounts_j1 = some r) ?_ ?_
    rotate_left
    · rintro a w2197 ⟨o2196, hk, hs, H⟩
      rw [tidewracklaw25_NetCounts_j1] at H
      refine x_seq ?_
      refine wpIn_region_lit ?_
      refine x_run tab hk (k := 1) (lv := []) (ks := [4]) (e' := [(4, .bool true)]) rfl trivial fun a hk => ?_
      refine wpListIn_nil ?_
      refine then_n ?_
      refine wpIn_ret ?_
      obtain rfl := Option.some.inj H
      exact x_retG hk (rs := [.tmp 4]) (vs := [.bool true]) rfl ⟨rfl, trivial⟩ ⟨fun b_ => if b_ < w.heap.size then o b_ else (fun _ => 0) (o2196 b_), rfl, hs.close0 o (fun _ => 0)⟩
    refine x_seq ?_
    refine wpIn_region_lit ?_
    refine x_run tab hk (k := 1) (lv := []) (ks := [1, 5, 6, 7, 8]) (e' := [(1, .slice Ap1 (p1).length cp1), (5, .pointer (some ⟨bx18, 0, none⟩)), (6, .int .i64 0), (7, .int .i64 0), (8, .int .i64 0)]) rfl trivial fun a hk => ?_
    refine wpListIn_nil ?_
    refine then_n ?_
    refine wpIn_block ?_
    refine x_loop (fun j_ a_ w_ => ∃ o2918 : Nat → Nat, ∃ x2919 : Int, ∃ x2920 : Int, ∃ A2921 : Option Addr, ∃ c2922 : Nat, ∃ l2923 : List T28, ∃ x2926 : Int, ∃ x2927 : Int, ∃ x2928 : Int, Kn 98 a_ [(1, .slice Ap1 (p1).length cp1), (5, .pointer (some ⟨bx18, 0, none⟩)), (6, .int .i64 x2926), (7, .int .i64 x2927), (8, .int .i64 x2928)] ∧ St [] w (fun _ => 0) w_ o2918 ∧ Ft (Bx bx18 56 [.int .i64 x2919, .int .i64 x2920, .slice A2921 (l2923).length c2922]) w_ o2918 286 ∧ Ft (Own ET28 29 (.slice A2921 (l2923).length c2922) l2923) w_ o2918 285 ∧ Ft (RdC ET40 Ap1 p1) w_ o2918 0 ∧ (l2923).length ≤ c2922 ∧ tidewracklaw25_NetCounts_l2 K p1 j_ x2919 x2920 l2923 x2926 x2927 x2928 = some r) (k := K) ⟨(fun b_ => (fun l_ => if l_ = 1 then 286 else if l_ = 2 then 285 else l_) (o16 b_)), t13.most, t13.lost, A20, c21, t13.l, 0, 0, 0, (by exact Kn.pick (ks := [1, 5, 6, 7, 8]) hk rfl), (hs.relab0 (fun l_ => if l_ = 1 then 286 else if l_ = 2 then 285 else l_) rfl), (f19.relab (fun l_ => if l_ = 1 then 286 else if l_ = 2 then 285 else l_) rfl), (f22.relab (fun l_ => if l_ = 1 then 286 else if l_ = 2 then 285 else l_) rfl), (f900020.relab (fun l_ => if l_ = 1 then 286 else if l_ = 2 then 285 else l_) rfl), hc23, H⟩ (by rintro _ _ ⟨_, _, _, _, _, _, _, _, _, _, _, _, _, _, _, H_⟩; exact absurd (show (none : Option Bool) = some r from H_) (by simp)) ?_
    rintro k3647 a w3646 ⟨o2918, x2919, x2920, A2921, c2922, l2923, x2926, x2927, x2928, hk, hs, f19, f2924, f900020, hc2925, H⟩
    rw [tidewracklaw25_NetCounts_l2] at H
    obtain ⟨lp3648, hlp3649⟩ : ∃ lp_, lp_ = tidewracklaw25_NetCounts_l2 K p1 k3647 := ⟨_, rfl⟩
    rw [← hlp3649] at H
    refine x_mid (fun a_ w_ => ∃ o3655 : Nat → Nat, Kn 98 a_ [(1, .slice Ap1 (p1).length cp1), (5, .pointer (some ⟨bx18, 0, none⟩)), (6, .int .i64 x2926), (7, .int .i64 x2927), (8, .int .i64 x2928)] ∧ St [] w (fun _ => 0) w_ o3655 ∧ Ft (Bx bx18 56 [.int .i64 x2919, .int .i64 x2920, .slice A2921 (l2923).length c2922]) w_ o3655 357 ∧ Ft (Own ET28 29 (.slice A2921 (l2923).length c2922) l2923) w_ o3655 356 ∧ Ft (RdC ET40 Ap1 p1) w_ o3655 0 ∧ tidewracklaw25_NetCounts_j3 K p1 x2919 x2920 l2923 x2926 x2927 x2928 lp3648 = some r) ?_ ?_
    rotate_left
    · rintro a w3656 ⟨o3655, hk, hs, f19, f2924, f900020, H⟩
      rw [tidewracklaw25_NetCounts_j3] at H
      refine x_seq ?_
      refine wpIn_block ?_
      refine x_seq ?_
      refine wpIn_region_lit ?_
      obtain ⟨q3657, H⟩ := ifS H
      obtain ⟨ad3658, hAad3658⟩ := RdC.addr f900020.now q3657
      have hk_C := hk
      have f19_C := f19
      have f2924_C := f2924
      have f900020_C := f900020
      subst hAad3658
      have hk := hk_C
      clear hk_C
      have f19 := f19_C
      clear f19_C
      have f2924 := f2924_C
      clear f2924_C
      have f900020 := f900020_C
      clear f900020_C
      refine x_run tab hk (k := 4) (lv := [.agg #[.int .i64 ((rdD zT40 p1 x2928).Kind), .int .i64 ((rdD zT40 p1 x2928).I), .int .i64 ((rdD zT40 p1 x2928).At), .int .u32 ((rdD zT40 p1 x2928).Mask), .int .i64 ((rdD zT40 p1 x2928).Gram_From), .int .i64 ((rdD zT40 p1 x2928).Gram_To), .string ((rdD zT40 p1 x2928).Gram_Data)]]) (ks := [1, 5, 6, 7, 8, 32]) (e' := [(1, .slice (some ad3658) (p1).length cp1), (5, .pointer (some ⟨bx18, 0, none⟩)), (6, .int .i64 x2926), (7, .int .i64 x2927), (8, .int .i64 x2928), (32, .agg #[.int .i64 ((rdD zT40 p1 x2928).Kind), .int .i64 ((rdD zT40 p1 x2928).I), .int .i64 ((rdD zT40 p1 x2928).At), .int .u32 ((rdD zT40 p1 x2928).Mask), .int .i64 ((rdD zT40 p1 x2928).Gram_From), .int .i64 ((rdD zT40 p1 x2928).Gram_To), .string ((rdD zT40 p1 x2928).Gram_Data)])]) rfl ⟨q3657, (load_elem (E := ET40) (i := x2928) (dx := zT40) tab rfl rfl f900020.now q3657), trivial⟩ fun a hk => ?_
      refine x_op hk rfl ?_
      refine op_alloc (o := o3655) tab (t := 41) (cs := [.int .i64 0, .int .i64 0, .int .i64 0, .int .u32 0, .int .i64 0, .int .i64 0, .string (⟨#[]⟩ : ByteArray)]) rfl rfl 358 fun bx3662 w3659 o3660 st3661 f3663 => ?_
      replace f19 := f19.st st3661 (by decide)
      replace f2924 := f2924.st st3661 (by decide)
      replace f900020 := f900020.st st3661 (by decide)
      replace hs := hs.loc0 st3661 (by decide)
      have hk := hk.put 9 (.pointer (some ⟨bx3662, 0, none⟩)) rfl
      refine x_op hk rfl ?_
      refine op_store tab hk (t := 41) (v := .agg #[.int .i64 ((rdD zT40 p1 x2928).Kind), .int .i64 ((rdD zT40 p1 x2928).I), .int .i64 ((rdD zT40 p1 x2928).At), .int .u32 ((rdD zT40 p1 x2928).Mask), .int .i64 ((rdD zT40 p1 x2928).Gram_From), .int .i64 ((rdD zT40 p1 x2928).Gram_To), .string ((rdD zT40 p1 x2928).Gram_Data)]) (b := bx3662) (k := 0) (cs' := [.int .i64 ((rdD zT40 p1 x2928).Kind), .int .i64 ((rdD zT40 p1 x2928).I), .int .i64 ((rdD zT40 p1 x2928).At), .int .u32 ((rdD zT40 p1 x2928).Mask), .int .i64 ((rdD zT40 p1 x2928).Gram_From), .int .i64 ((rdD zT40 p1 x2928).Gram_To), .string ((rdD zT40 p1 x2928).Gram_Data)]) rfl rfl rfl rfl rfl rfl f3663 rfl rfl fun w3664 o3665 st3666 f3663_ => ?_
      replace f19 := f19.st st3666 (by decide)
      replace f2924 := f2924.st st3666 (by decide)
      replace f900020 := f900020.st st3666 (by decide)
      replace hs := hs.loc0 st3666 (by decide)
      replace f3663 := f3663_
      refine wpListIn_nil ?_
      refine then_n ?_
      refine x_mid (fun a_ w_ => ∃ o4009 : Nat → Nat, ∃ x4010 : Int, ∃ x4011 : Int, ∃ A4012 : Option Addr, ∃ c4013 : Nat, ∃ l4014 : List T28, ∃ x4017 : Int, ∃ x4018 : Int, Kn 98 a_ [(1, .slice (some ad3658) (p1).length cp1), (5, .pointer (some ⟨bx18, 0, none⟩)), (6, .int .i64 x4017), (7, .int .i64 x4018), (8, .int .i64 x2928)] ∧ St [] w (fun _ => 0) w_ o4009 ∧ Ft (Bx bx18 56 [.int .i64 x4010, .int .i64 x4011, .slice A4012 (l4014).length c4013]) w_ o4009 392 ∧ Ft (Own ET28 29 (.slice A4012 (l4014).length c4013) l4014) w_ o4009 391 ∧ Ft (RdC ET40 (some ad3658) p1) w_ o4009 0 ∧ (l4014).length ≤ c4013 ∧ tidewracklaw25_NetCounts_j4 x2928 lp3648 x4010 x4011 l4014 x4017 x4018 = some r) ?_ ?_
      rotate_left
      · rintro a w4019 ⟨o4009, x4010, x4011, A4012, c4013, l4014, x4017, x4018, hk, hs, f3679, f4015, f900020, hc4016, H⟩
        rw [tidewracklaw25_NetCounts_j4] at H
        refine x_seq ?_
        refine wpIn_region_lit ?_
        refine x_run tab hk (k := 3) (lv := []) (ks := [1, 5, 6, 7, 8, 89, 90, 91]) (e' := [(1, .slice (some ad3658) (p1).length cp1), (5, .pointer (some ⟨bx18, 0, none⟩)), (6, .int .i64 x4017), (7, .int .i64 x4018), (8, .int .i64 x2928), (89, .int .i64 x4017), (90, .int .i64 x4018), (91, .pointer (some ⟨bx18, 0, none⟩))]) rfl trivial fun a hk => ?_
        refine x_op hk rfl ?_
        obtain ⟨t4023, hc4024, H⟩ := bindS H
        refine op_call hk ent_14 (vs := [.pointer (some ⟨bx18, 0, none⟩)]) rfl (net_Net_Lost_calls bx18 A4012 c4013 (⟨x4010, x4011, l4014⟩ : T55) _ o4009 392 f3679 _ (f4015.imp fun _ h_ => Own.rd h_) hc4016   _ hc4024) ?_
        rintro _ w4025 ⟨o4026, rfl, st4027⟩
        replace f3679 := f3679.st st4027 (by decide)
        replace f4015 := f4015.st st4027 (by decide)
        replace f900020 := f900020.st st4027 (by decide)
        replace hs := hs.loc0 st4027 (by decide)
        have hk := hk.put 92 (.int .i64 t4023) rfl
        refine x_run tab hk (k := 2) (lv := []) (ks := [1, 5, 6, 7, 8, 89, 93, 94]) (e' := [(1, .slice (some ad3658) (p1).length cp1), (5, .pointer (some ⟨bx18, 0, none⟩)), (6, .int .i64 x4017), (7, .int .i64 x4018), (8, .int .i64 x2928), (89, .int .i64 x4017), (93, .int .i64 (IntKind.wrap .i64 (x4018 + t4023))), (94, .pointer (some ⟨bx18, 0, none⟩))]) rfl trivial fun a hk => ?_
        refine x_op hk rfl ?_
        obtain ⟨t4031, hc4032, H⟩ := bindS H
        refine op_call hk ent_13 (vs := [.pointer (some ⟨bx18, 0, none⟩)]) rfl (net_Net_Len_calls bx18 A4012 c4013 (⟨x4010, x4011, l4014⟩ : T55) _ o4026 392 f3679 _ (f4015.imp fun _ h_ => Own.rd h_) hc4016   _ hc4032) ?_
        rintro _ w4033 ⟨o4034, rfl, st4035⟩
        replace f3679 := f3679.st st4035 (by decide)
        replace f4015 := f4015.st st4035 (by decide)
        replace f900020 := f900020.st st4035 (by decide)
        replace hs := hs.loc0 st4035 (by decide)
        have hk := hk.put 95 (.int .i64 t4031) rfl
        refine x_run tab hk (k := 2) (lv := []) (ks := [1, 5, 6, 7, 8, 97]) (e' := [(1, .slice (some ad3658) (p1).length cp1), (5, .pointer (some ⟨bx18, 0, none⟩)), (6, .int .i64 x4017), (7, .int .i64 x4018), (8, .int .i64 x2928), (97, .bool (x4017 != (IntKind.wrap .i64 ((IntKind.wrap .i64 (x4018 + t4023)) + t4031))))]) rfl trivial fun a hk => ?_
        refine wpListIn_nil ?_
        refine then_n ?_
        cases b4036 : (x4017 != (IntKind.wrap .i64 ((IntKind.wrap .i64 (x4018 + t4023)) + t4031)))
        · rw [b4036] at hk H
          replace H := bifF H
          refine x_if hk (b := false) rfl ?_
          refine (show Code.wpIn _ _ _ _ _ _ _ from ?_)
          refine wpIn_skip ?_
          refine blk_n ?_
          refine then_n ?_
          refine wpIn_region_lit ?_
          refine x_run tab hk (k := 3) (lv := []) (ks := [1, 5, 6, 7, 8]) (e' := [(1, .slice (some ad3658) (p1).length cp1), (5, .pointer (some ⟨bx18, 0, none⟩)), (6, .int .i64 x4017), (7, .int .i64 x4018), (8, .int .i64 (IntKind.wrap .i64 (x2928 + 1)))]) rfl trivial fun a hk => ?_
          refine wpListIn_nil ?_
          refine then_n ?_
          exact ⟨k3647, Nat.le_refl _, (fun b_ => (fun l_ => if l_ = 391 then 285 else if l_ = 392 then 286 else l_) (o4034 b_)), x4010, x4011, A4012, c4013, l4014, x4017, x4018, (IntKind.wrap .i64 (x2928 + 1)), (by exact Kn.pick (ks := [1, 5, 6, 7, 8]) hk rfl), (hs.relab0 (fun l_ => if l_ = 391 then 285 else if l_ = 392 then 286 else l_) rfl), (f3679.relab (fun l_ => if l_ = 391 then 285 else if l_ = 392 then 286 else l_) rfl), (f4015.relab (fun l_ => if l_ = 391 then 285 else if l_ = 392 then 286 else l_) rfl), (f900020.relab (fun l_ => if l_ = 391 then 285 else if l_ = 392 then 286 else l_) rfl), hc4016, (hlp3649 ▸ H)⟩
        · rw [b4036] at hk H
          replace H := bifT H
          refine x_if hk (b := true) rfl ?_
          refine (show Code.wpIn _ _ _ _ _ _ _ from ?_)
          refine x_seq ?_
          refine wpIn_region_lit ?_
          refine x_run tab hk (k := 1) (lv := []) (ks := [4]) (e' := [(4, .bool false)]) rfl trivial fun a hk => ?_
          refine wpListIn_nil ?_
          refine then_n ?_
          refine wpIn_ret ?_
          refine blk_r ?_
          refine then_r ?_
          refine then_r ?_
          refine blk_r ?_
          refine then_r ?_
          obtain rfl := Option.some.inj H
          exact x_retG hk (rs := [.tmp 4]) (vs := [.bool false]) rfl ⟨rfl, trivial⟩ ⟨fun b_ => if b_ < w.heap.size then o b_ else (fun _ => 0) (o4034 b_), rfl, hs.close0 o (fun _ => 0)⟩
      refine x_seq ?_
      refine wpIn_region_lit ?_
      refine x_run tab hk (k := 2) (lv := [.int .i64 ((rdD zT40 p1 x2928).Kind)]) (ks := [1, 5, 6, 7, 8, 9, 34]) (e' := [(1, .slice (some ad3658) (p1).length cp1), (5, .pointer (some ⟨bx18, 0, none⟩)), (6, .int .i64 x2926), (7, .int .i64 x2927), (8, .int .i64 x2928), (9, .pointer (some ⟨bx3662, 0, none⟩)), (34, .int .i64 ((rdD zT40 p1 x2928).Kind))]) rfl ⟨(load1 tab rfl ((Bx.cell f3663.now 0).trans rfl)), trivial⟩ fun a hk => ?_
      refine wpListIn_nil ?_
      refine then_n ?_
      refine wpIn_block ?_
      refine x_seq ?_
      refine wpIn_region_lit ?_
      refine x_run tab hk (k := 2) (lv := []) (ks := [1, 5, 6, 7, 8, 9, 34, 43]) (e' := [(1, .slice (some ad3658) (p1).length cp1), (5, .pointer (some ⟨bx18, 0, none⟩)), (6, .int .i64 x2926), (7, .int .i64 x2927), (8, .int .i64 x2928), (9, .pointer (some ⟨bx3662, 0, none⟩)), (34, .int .i64 ((rdD zT40 p1 x2928).Kind)), (43, .bool (((rdD zT40 p1 x2928).Kind) == (0 : Int)))]) rfl trivial fun a hk => ?_
      refine wpListIn_nil ?_
      refine then_n ?_
      cases b4037 : (((rdD zT40 p1 x2928).Kind) == (0 : Int))
      · rw [b4037] at hk H
        replace H := bifF H
        refine x_if hk (b := false) rfl ?_
        refine (show Code.wpIn _ _ _ _ _ _ _ from ?_)
        refine x_seq ?_
        refine wpIn_region_lit ?_
        refine x_run tab hk (k := 2) (lv := []) (ks := [1, 5, 6, 7, 8, 9, 34, 62]) (e' := [(1, .slice (some ad3658) (p1).length cp1), (5, .pointer (some ⟨bx18, 0, none⟩)), (6, .int .i64 x2926), (7, .int .i64 x2927), (8, .int .i64 x2928), (9, .pointer (some ⟨bx3662, 0, none⟩)), (34, .int .i64 ((rdD zT40 p1 x2928).Kind)), (62, .bool (((rdD zT40 p1 x2928).Kind) == (1 : Int)))]) rfl trivial fun a hk => ?_
        refine wpListIn_nil ?_
        refine then_n ?_
        cases b4038 : (((rdD zT40 p1 x2928).Kind) == (1 : Int))
        · rw [b4038] at hk H
          replace H := bifF H
          refine x_if hk (b := false) rfl ?_
          refine (show Code.wpIn _ _ _ _ _ _ _ from ?_)
          refine x_seq ?_
          refine wpIn_region_lit ?_
          refine x_run tab hk (k := 2) (lv := []) (ks := [1, 5, 6, 7, 8, 9, 34, 74]) (e' := [(1, .slice (some ad3658) (p1).length cp1), (5, .pointer (some ⟨bx18, 0, none⟩)), (6, .int .i64 x2926), (7, .int .i64 x2927), (8, .int .i64 x2928), (9, .pointer (some ⟨bx3662, 0, none⟩)), (34, .int .i64 ((rdD zT40 p1 x2928).Kind)), (74, .bool (((rdD zT40 p1 x2928).Kind) == (2 : Int)))]) rfl trivial fun a hk => ?_
          refine wpListIn_nil ?_
          refine then_n ?_
          cases b4039 : (((rdD zT40 p1 x2928).Kind) == (2 : Int))
          · rw [b4039] at hk H
            replace H := bifF H
            refine x_if hk (b := false) rfl ?_
            refine (show Code.wpIn _ _ _ _ _ _ _ from ?_)
            refine x_seq ?_
            refine wpIn_region_lit ?_
            refine x_run tab hk (k := 2) (lv := []) (ks := [1, 5, 6, 7, 8, 9, 80]) (e' := [(1, .slice (some ad3658) (p1).length cp1), (5, .pointer (some ⟨bx18, 0, none⟩)), (6, .int .i64 x2926), (7, .int .i64 x2927), (8, .int .i64 x2928), (9, .pointer (some ⟨bx3662, 0, none⟩)), (80, .bool (((rdD zT40 p1 x2928).Kind) == (3 : Int)))]) rfl trivial fun a hk => ?_
            refine wpListIn_nil ?_
            refine then_n ?_
            cases b4040 : (((rdD zT40 p1 x2928).Kind) == (3 : Int))
            · rw [b4040] at hk H
              replace H := bifF H
              refine x_if hk (b := false) rfl ?_
              refine (show Code.wpIn _ _ _ _ _ _ _ from ?_)
              refine wpIn_region_lit ?_
              refine x_run tab hk (k := 7) (lv := [.int .i64 ((rdD zT40 p1 x2928).I), .int .i64 ((rdD zT40 p1 x2928).At), .int .u32 ((rdD zT40 p1 x2928).Mask)]) (ks := [1, 5, 6, 7, 8, 35, 37, 39, 41]) (e' := [(1, .slice (some ad3658) (p1).length cp1), (5, .pointer (some ⟨bx18, 0, none⟩)), (6, .int .i64 x2926), (7, .int .i64 x2927), (8, .int .i64 x2928), (35, .pointer (some ⟨bx18, 0, none⟩)), (37, .int .i64 ((rdD zT40 p1 x2928).I)), (39, .int .i64 ((rdD zT40 p1 x2928).At)), (41, .int .u32 ((rdD zT40 p1 x2928).Mask))]) rfl ⟨(load1 tab rfl ((Bx.cell f3663.now 1).trans rfl)), (load1 tab rfl ((Bx.cell f3663.now 2).trans rfl)), (load1 tab rfl ((Bx.cell f3663.now 3).trans rfl)), trivial⟩ fun a hk => ?_
              refine x_op hk rfl ?_
              obtain ⟨t4044, hc4045, H⟩ := bindS H
              refine op_call hk ent_17 (vs := [.pointer (some ⟨bx18, 0, none⟩), .int .i64 ((rdD zT40 p1 x2928).I), .int .i64 ((rdD zT40 p1 x2928).At), .int .u32 ((rdD zT40 p1 x2928).Mask)]) rfl (net_Net_Turn_calls K bx18 A2921 c2922 (⟨x2919, x2920, l2923⟩ : T55) ((rdD zT40 p1 x2928).I) ((rdD zT40 p1 x2928).At) ((rdD zT40 p1 x2928).Mask) _ o3665 357 f19 356 f2924 hc2925 (by decide)   _ hc4045) ?_
              rintro _ w4046 ⟨o4047, A4050, c4051, rfl, st4048, f4049, f4052, hc4053⟩
              replace f900020 := f900020.st st4048 (by decide)
              replace hs := hs.loc0 st4048 (by decide)
              have hk := hk.put 42 (.bool t4044.1) rfl
              refine wpListIn_nil ?_
              refine blk_n ?_
              refine then_n ?_
              exact ⟨(fun b_ => (fun l_ => if l_ = 356 then 391 else if l_ = 357 then 392 else l_) (o4047 b_)), t4044.2.most, t4044.2.lost, A4050, c4051, t4044.2.l, x2926, x2927, (by exact Kn.pick (ks := [1, 5, 6, 7, 8]) hk rfl), (hs.relab0 (fun l_ => if l_ = 356 then 391 else if l_ = 357 then 392 else l_) rfl), (f4049.relab (fun l_ => if l_ = 356 then 391 else if l_ = 357 then 392 else l_) rfl), (f4052.relab (fun l_ => if l_ = 356 then 391 else if l_ = 357 then 392 else l_) rfl), (f900020.relab (fun l_ => if l_ = 356 then 391 else if l_ = 357 then 392 else l_) rfl), hc4053, H⟩
            · rw [b4040] at hk H
              replace H := bifT H
              refine x_if hk (b := true) rfl ?_
              refine (show Code.wpIn _ _ _ _ _ _ _ from ?_)
              refine wpIn_region_lit ?_
              refine x_run tab hk (k := 4) (lv := [.int .i64 ((rdD zT40 p1 x2928).I)]) (ks := [1, 5, 7, 8, 82, 83, 85]) (e' := [(1, .slice (some ad3658) (p1).length cp1), (5, .pointer (some ⟨bx18, 0, none⟩)), (7, .int .i64 x2927), (8, .int .i64 x2928), (82, .int .i64 x2926), (83, .pointer (some ⟨bx18, 0, none⟩)), (85, .int .i64 ((rdD zT40 p1 x2928).I))]) rfl ⟨(load1 tab rfl ((Bx.cell f3663.now 1).trans rfl)), trivial⟩ fun a hk => ?_
              refine x_op hk rfl ?_
              obtain ⟨t4057, hc4058, H⟩ := bindS H
              refine op_call hk ent_16 (vs := [.pointer (some ⟨bx18, 0, none⟩), .int .i64 ((rdD zT40 p1 x2928).I)]) rfl (net_Net_Twin_calls bx18 A2921 c2922 (⟨x2919, x2920, l2923⟩ : T55) ((rdD zT40 p1 x2928).I) _ o3665 357 f19 356 f2924 hc2925 (by decide)   _ hc4058) ?_
              rintro _ w4059 ⟨o4060, A4063, c4064, rfl, st4061, f4062, f4065, hc4066⟩
              replace f900020 := f900020.st st4061 (by decide)
              replace hs := hs.loc0 st4061 (by decide)
              have hk := hk.put 86 (.bool t4057.1) rfl
              refine x_op hk rfl ?_
              obtain ⟨t4070, hc4071, H⟩ := bindS H
              refine op_call hk ent_10 (vs := [.bool t4057.1]) rfl (tidewracklaw25_bit_calls t4057.1 _ o4060    _ hc4071) ?_
              rintro _ w4072 ⟨o4073, rfl, st4074⟩
              replace f4062 := f4062.st st4074 (by decide)
              replace f4065 := f4065.st st4074 (by decide)
              replace f900020 := f900020.st st4074 (by decide)
              replace hs := hs.loc0 st4074 (by decide)
              have hk := hk.put 87 (.int .i64 t4070) rfl
              refine x_run tab hk (k := 2) (lv := []) (ks := [1, 5, 6, 7, 8]) (e' := [(1, .slice (some ad3658) (p1).length cp1), (5, .pointer (some ⟨bx18, 0, none⟩)), (6, .int .i64 (IntKind.wrap .i64 (x2926 + t4070))), (7, .int .i64 x2927), (8, .int .i64 x2928)]) rfl trivial fun a hk => ?_
              refine wpListIn_nil ?_
              refine blk_n ?_
              refine then_n ?_
              exact ⟨(fun b_ => (fun l_ => if l_ = 356 then 391 else if l_ = 357 then 392 else l_) (o4073 b_)), t4057.2.most, t4057.2.lost, A4063, c4064, t4057.2.l, (IntKind.wrap .i64 (x2926 + t4070)), x2927, (by exact Kn.pick (ks := [1, 5, 6, 7, 8]) hk rfl), (hs.relab0 (fun l_ => if l_ = 356 then 391 else if l_ = 357 then 392 else l_) rfl), (f4062.relab (fun l_ => if l_ = 356 then 391 else if l_ = 357 then 392 else l_) rfl), (f4065.relab (fun l_ => if l_ = 356 then 391 else if l_ = 357 then 392 else l_) rfl), (f900020.relab (fun l_ => if l_ = 356 then 391 else if l_ = 357 then 392 else l_) rfl), hc4066, H⟩
          · rw [b4039] at hk H
            replace H := bifT H
            refine x_if hk (b := true) rfl ?_
            refine (show Code.wpIn _ _ _ _ _ _ _ from ?_)
            refine wpIn_region_lit ?_
            refine x_run tab hk (k := 3) (lv := [.int .i64 ((rdD zT40 p1 x2928).I)]) (ks := [1, 5, 6, 7, 8, 76, 78]) (e' := [(1, .slice (some ad3658) (p1).length cp1), (5, .pointer (some ⟨bx18, 0, none⟩)), (6, .int .i64 x2926), (7, .int .i64 x2927), (8, .int .i64 x2928), (76, .pointer (some ⟨bx18, 0, none⟩)), (78, .int .i64 ((rdD zT40 p1 x2928).I))]) rfl ⟨(load1 tab rfl ((Bx.cell f3663.now 1).trans rfl)), trivial⟩ fun a hk => ?_
            refine x_op hk rfl ?_
            obtain ⟨t4078, hc4079, H⟩ := bindS H
            refine op_call hk ent_15 (vs := [.pointer (some ⟨bx18, 0, none⟩), .int .i64 ((rdD zT40 p1 x2928).I)]) rfl (net_Net_Lose_calls bx18 A2921 c2922 (⟨x2919, x2920, l2923⟩ : T55) ((rdD zT40 p1 x2928).I) _ o3665 357 f19 356 f2924 hc2925 (by decide)   _ hc4079) ?_
            rintro _ w4080 ⟨o4081, A4084, c4085, rfl, st4082, f4083, f4086, hc4087⟩
            replace f900020 := f900020.st st4082 (by decide)
            replace hs := hs.loc0 st4082 (by decide)
            have hk := hk.put 79 (.bool t4078.1) rfl
            refine wpListIn_nil ?_
            refine blk_n ?_
            refine then_n ?_
            exact ⟨(fun b_ => (fun l_ => if l_ = 356 then 391 else if l_ = 357 then 392 else l_) (o4081 b_)), t4078.2.most, t4078.2.lost, A4084, c4085, t4078.2.l, x2926, x2927, (by exact Kn.pick (ks := [1, 5, 6, 7, 8]) hk rfl), (hs.relab0 (fun l_ => if l_ = 356 then 391 else if l_ = 357 then 392 else l_) rfl), (f4083.relab (fun l_ => if l_ = 356 then 391 else if l_ = 357 then 392 else l_) rfl), (f4086.relab (fun l_ => if l_ = 356 then 391 else if l_ = 357 then 392 else l_) rfl), (f900020.relab (fun l_ => if l_ = 356 then 391 else if l_ = 357 then 392 else l_) rfl), hc4087, H⟩
        · rw [b4038] at hk H
          replace H := bifT H
          refine x_if hk (b := true) rfl ?_
          refine (show Code.wpIn _ _ _ _ _ _ _ from ?_)
          refine x_seq ?_
          refine wpIn_region_lit ?_
          refine x_run tab hk (k := 3) (lv := [.int .i64 ((rdD zT40 p1 x2928).I)]) (ks := [1, 5, 6, 7, 8, 65, 67]) (e' := [(1, .slice (some ad3658) (p1).length cp1), (5, .pointer (some ⟨bx18, 0, none⟩)), (6, .int .i64 x2926), (7, .int .i64 x2927), (8, .int .i64 x2928), (65, .pointer (some ⟨bx18, 0, none⟩)), (67, .int .i64 ((rdD zT40 p1 x2928).I))]) rfl ⟨(load1 tab rfl ((Bx.cell f3663.now 1).trans rfl)), trivial⟩ fun a hk => ?_
          refine x_op hk rfl ?_
          obtain ⟨t4091, hc4092, H⟩ := bindS H
          refine op_call hk ent_12 (vs := [.pointer (some ⟨bx18, 0, none⟩), .int .i64 ((rdD zT40 p1 x2928).I)]) rfl (net_Net_Take_calls bx18 A2921 c2922 (⟨x2919, x2920, l2923⟩ : T55) ((rdD zT40 p1 x2928).I) _ o3665 357 f19 356 f2924 hc2925 (by decide)   _ hc4092) ?_
          rintro _ w4093 ⟨o4094, A4097, c4098, rfl, st4095, f4096, f4099, hc4100⟩
          replace f900020 := f900020.st st4095 (by decide)
          replace hs := hs.loc0 st4095 (by decide)
          have hk := hk.put 68 (.tuple #[.agg #[.int .i64 t4091.1.From, .int .i64 t4091.1.To, .string t4091.1.Data], .bool t4091.2.1]) rfl
          refine x_run tab hk (k := 3) (lv := []) (ks := [1, 5, 6, 7, 8, 69, 70]) (e' := [(1, .slice (some ad3658) (p1).length cp1), (5, .pointer (some ⟨bx18, 0, none⟩)), (6, .int .i64 x2926), (7, .int .i64 x2927), (8, .int .i64 x2928), (69, .agg #[.int .i64 t4091.1.From, .int .i64 t4091.1.To, .string t4091.1.Data]), (70, .bool t4091.2.1)]) rfl trivial fun a hk => ?_
          refine x_op hk rfl ?_
          refine op_alloc (o := o4094) tab (t := 29) (cs := [.int .i64 0, .int .i64 0, .string (⟨#[]⟩ : ByteArray)]) rfl rfl 393 fun bx4104 w4101 o4102 st4103 f4105 => ?_
          replace f4096 := f4096.st st4103 (by decide)
          replace f4099 := f4099.st st4103 (by decide)
          replace f900020 := f900020.st st4103 (by decide)
          replace hs := hs.loc0 st4103 (by decide)
          have hk := hk.put 11 (.pointer (some ⟨bx4104, 0, none⟩)) rfl
          refine x_op hk rfl ?_
          refine op_store tab hk (t := 29) (v := .agg #[.int .i64 t4091.1.From, .int .i64 t4091.1.To, .string t4091.1.Data]) (b := bx4104) (k := 0) (cs' := [.int .i64 t4091.1.From, .int .i64 t4091.1.To, .string t4091.1.Data]) rfl rfl rfl rfl rfl rfl f4105 rfl rfl fun w4106 o4107 st4108 f4105_ => ?_
          replace f4096 := f4096.st st4108 (by decide)
          replace f4099 := f4099.st st4108 (by decide)
          replace f900020 := f900020.st st4108 (by decide)
          replace hs := hs.loc0 st4108 (by decide)
          replace f4105 := f4105_
          refine x_run tab hk (k := 1) (lv := []) (ks := [1, 5, 6, 7, 8, 12]) (e' := [(1, .slice (some ad3658) (p1).length cp1), (5, .pointer (some ⟨bx18, 0, none⟩)), (6, .int .i64 x2926), (7, .int .i64 x2927), (8, .int .i64 x2928), (12, .bool t4091.2.1)]) rfl trivial fun a hk => ?_
          refine wpListIn_nil ?_
          refine then_n ?_
          refine x_seq ?_
          refine wpIn_region_lit ?_
          refine x_run tab hk (k := 1) (lv := []) (ks := [1, 5, 6, 7, 8, 71]) (e' := [(1, .slice (some ad3658) (p1).length cp1), (5, .pointer (some ⟨bx18, 0, none⟩)), (6, .int .i64 x2926), (7, .int .i64 x2927), (8, .int .i64 x2928), (71, .bool t4091.2.1)]) rfl trivial fun a hk => ?_
          refine wpListIn_nil ?_
          refine then_n ?_
          cases b4109 : t4091.2.1
          · rw [b4109] at hk H
            replace H := bifF H
            refine x_if hk (b := false) rfl ?_
            refine (show Code.wpIn _ _ _ _ _ _ _ from ?_)
            refine wpIn_skip ?_
            refine blk_n ?_
            refine then_n ?_
            exact ⟨(fun b_ => (fun l_ => if l_ = 356 then 391 else if l_ = 357 then 392 else l_) (o4107 b_)), t4091.2.2.most, t4091.2.2.lost, A4097, c4098, t4091.2.2.l, x2926, x2927, (by exact Kn.pick (ks := [1, 5, 6, 7, 8]) hk rfl), (hs.relab0 (fun l_ => if l_ = 356 then 391 else if l_ = 357 then 392 else l_) rfl), (f4096.relab (fun l_ => if l_ = 356 then 391 else if l_ = 357 then 392 else l_) rfl), (f4099.relab (fun l_ => if l_ = 356 then 391 else if l_ = 357 then 392 else l_) rfl), (f900020.relab (fun l_ => if l_ = 356 then 391 else if l_ = 357 then 392 else l_) rfl), hc4100, H⟩
          · rw [b4109] at hk H
            replace H := bifT H
            refine x_if hk (b := true) rfl ?_
            refine (show Code.wpIn _ _ _ _ _ _ _ from ?_)
            refine wpIn_region_lit ?_
            refine x_run tab hk (k := 3) (lv := []) (ks := [1, 5, 6, 7, 8]) (e' := [(1, .slice (some ad3658) (p1).length cp1), (5, .pointer (some ⟨bx18, 0, none⟩)), (6, .int .i64 x2926), (7, .int .i64 (IntKind.wrap .i64 (x2927 + 1))), (8, .int .i64 x2928)]) rfl trivial fun a hk => ?_
            refine wpListIn_nil ?_
            refine blk_n ?_
            refine then_n ?_
            exact ⟨(fun b_ => (fun l_ => if l_ = 356 then 391 else if l_ = 357 then 392 else l_) (o4107 b_)), t4091.2.2.most, t4091.2.2.lost, A4097, c4098, t4091.2.2.l, x2926, (IntKind.wrap .i64 (x2927 + 1)), (by exact Kn.pick (ks := [1, 5, 6, 7, 8]) hk rfl), (hs.relab0 (fun l_ => if l_ = 356 then 391 else if l_ = 357 then 392 else l_) rfl), (f4096.relab (fun l_ => if l_ = 356 then 391 else if l_ = 357 then 392 else l_) rfl), (f4099.relab (fun l_ => if l_ = 356 then 391 else if l_ = 357 then 392 else l_) rfl), (f900020.relab (fun l_ => if l_ = 356 then 391 else if l_ = 357 then 392 else l_) rfl), hc4100, H⟩
      · rw [b4037] at hk H
        replace H := bifT H
        refine x_if hk (b := true) rfl ?_
        refine (show Code.wpIn _ _ _ _ _ _ _ from ?_)
        refine x_seq ?_
        refine x_cut (fun a_ w_ => ∃ o4236 : Nat → Nat, ∃ bx4237 : Nat, ∃ x4239 : T28, Kn 98 a_ [(1, .slice (some ad3658) (p1).length cp1), (5, .pointer (some ⟨bx18, 0, none⟩)), (6, .int .i64 x2926), (7, .int .i64 x2927), (8, .int .i64 x2928), (10, .pointer (some ⟨bx4237, 0, none⟩))] ∧ St [] w (fun _ => 0) w_ o4236 ∧ Ft (Bx bx18 56 [.int .i64 x2919, .int .i64 x2920, .slice A2921 (l2923).length c2922]) w_ o4236 409 ∧ Ft (Own ET28 29 (.slice A2921 (l2923).length c2922) l2923) w_ o4236 408 ∧ Ft (Bx bx4237 29 [.int .i64 x4239.From, .int .i64 x4239.To, .string x4239.Data]) w_ o4236 410 ∧ Ft (RdC ET40 (some ad3658) p1) w_ o4236 0 ∧ tidewracklaw25_NetCounts_j5 K x2919 x2920 l2923 x2926 x2927 x2928 lp3648 x4239 = some r) ?_ ?_
        rotate_left
        · rintro a w4240 ⟨o4236, bx4237, x4239, hk, hs, f19, f2924, f4238, f900020, H⟩
          rw [tidewracklaw25_NetCounts_j5] at H
          refine then_n ?_
          refine x_seq ?_
          refine wpIn_region_lit ?_
          refine x_run tab hk (k := 2) (lv := [.agg #[.int .i64 x4239.From, .int .i64 x4239.To, .string x4239.Data]]) (ks := [1, 5, 6, 7, 8, 56, 57]) (e' := [(1, .slice (some ad3658) (p1).length cp1), (5, .pointer (some ⟨bx18, 0, none⟩)), (6, .int .i64 x2926), (7, .int .i64 x2927), (8, .int .i64 x2928), (56, .pointer (some ⟨bx18, 0, none⟩)), (57, .agg #[.int .i64 x4239.From, .int .i64 x4239.To, .string x4239.Data])]) rfl ⟨(load_box tab rfl rfl f4238.now (k := 0) rfl rfl), trivial⟩ fun a hk => ?_
          refine x_op hk rfl ?_
          refine op_slice (o := o4236) tab hk (vs := [.agg #[.int .i64 x4239.From, .int .i64 x4239.To, .string x4239.Data]]) (cs := [.int .i64 x4239.From, .int .i64 x4239.To, .string x4239.Data]) rfl rfl rfl rfl rfl rfl rfl rfl rfl 411 fun bx4244 w4241 o4242 st4243 f4245 => ?_
          replace f19 := f19.st st4243 (by decide)
          replace f2924 := f2924.st st4243 (by decide)
          replace f900020 := f900020.st st4243 (by decide)
          replace hs := hs.loc0 st4243 (by decide)
          have f4246 : Ft (Own ET28 29 (.slice (some ⟨bx4244, 0, none⟩) (([x4239] : List T28)).length 1) ([x4239] : List T28)) w4241 o4242 411 := f4245.imp fun _ h_ => Own.of_box h_ rfl (by simp)
          have hk := hk.put 58 (.slice (some ⟨bx4244, 0, none⟩) (([x4239] : List T28)).length 1) rfl
          refine x_op hk rfl ?_
          obtain ⟨t4250, hc4251, H⟩ := bindS H
          refine op_call hk ent_9 (vs := [.pointer (some ⟨bx18, 0, none⟩), .slice (some ⟨bx4244, 0, none⟩) (([x4239] : List T28)).length 1]) rfl (net_Net_Send_calls K bx18 A2921 c2922 (⟨x2919, x2920, l2923⟩ : T55) (some ⟨bx4244, 0, none⟩) 1 ([x4239] : List T28) _ o4242 409 f19 408 f2924 hc2925 _ (f4246.imp fun _ h_ => Own.rd h_) (Nat.le_refl _) (by decide) (by decide)   _ hc4251) ?_
          rintro _ w4252 ⟨o4253, A4256, c4257, rfl, st4254, f4255, f4258, hc4259⟩
          replace f4246 := f4246.st st4254 (by decide)
          replace f900020 := f900020.st st4254 (by decide)
          replace hs := hs.loc0 st4254 (by decide)
          have hk := hk.put 59 (.int .i64 t4250.1) rfl
          refine wpListIn_nil ?_
          refine then_n ?_
          refine wpIn_region_lit ?_
          refine x_run tab hk (k := 3) (lv := []) (ks := [1, 5, 6, 7, 8]) (e' := [(1, .slice (some ad3658) (p1).length cp1), (5, .pointer (some ⟨bx18, 0, none⟩)), (6, .int .i64 (IntKind.wrap .i64 (x2926 + 1))), (7, .int .i64 x2927), (8, .int .i64 x2928)]) rfl trivial fun a hk => ?_
          refine wpListIn_nil ?_
          refine blk_n ?_
          refine then_n ?_
          exact ⟨(fun b_ => (fun l_ => if l_ = 408 then 391 else if l_ = 409 then 392 else l_) (o4253 b_)), t4250.2.most, t4250.2.lost, A4256, c4257, t4250.2.l, (IntKind.wrap .i64 (x2926 + 1)), x2927, (by exact Kn.pick (ks := [1, 5, 6, 7, 8]) hk rfl), (hs.relab0 (fun l_ => if l_ = 408 then 391 else if l_ = 409 then 392 else l_) rfl), (f4255.relab (fun l_ => if l_ = 408 then 391 else if l_ = 409 then 392 else l_) rfl), (f4258.relab (fun l_ => if l_ = 408 then 391 else if l_ = 409 then 392 else l_) rfl), (f900020.relab (fun l_ => if l_ = 408 then 391 else if l_ = 409 then 392 else l_) rfl), hc4259, H⟩
        obtain ⟨t4276, hc4277, H⟩ := bindS H
        refine xd_begin (o := o3665) (fun W_ => (Bx bx3662 41 [.int .i64 ((rdD zT40 p1 x2928).Kind), .int .i64 ((rdD zT40 p1 x2928).I), .int .i64 ((rdD zT40 p1 x2928).At), .int .u32 ((rdD zT40 p1 x2928).Mask), .int .i64 ((rdD zT40 p1 x2928).Gram_From), .int .i64 ((rdD zT40 p1 x2928).Gram_To), .string ((rdD zT40 p1 x2928).Gram_Data)]) W_ ∧ True) mixed rfl rfl fun w4317 st4318 => ?_
        replace f19 := f19.st st4318 (by decide)
        replace f2924 := f2924.st st4318 (by decide)
        replace f3663 := f3663.st st4318 (by decide)
        replace f900020 := f900020.st st4318 (by decide)
        replace hs := hs.loc0 st4318 (by decide)
        refine xd_abs fun G hG => ?_
        have N4330 : ∀ (a_ : Act) (w_ : World), (∃ o4328 : Nat → Nat, Kn 98 a_ [(1, .slice (some ad3658) (p1).length cp1), (5, .pointer (some ⟨bx18, 0, none⟩)), (6, .int .i64 x2926), (7, .int .i64 x2927), (8, .int .i64 x2928), (47, .int .i64 ((rdD zT40 p1 x2928).Gram_From)), (50, .int .i64 ((rdD zT40 p1 x2928).Gram_To)), (54, .string t4276)] ∧ St [] w (fun _ => 0) w_ o4328 ∧ Ft (Bx bx18 56 [.int .i64 x2919, .int .i64 x2920, .slice A2921 (l2923).length c2922]) w_ o4328 418 ∧ Ft (Own ET28 29 (.slice A2921 (l2923).length c2922) l2923) w_ o4328 417 ∧ Ft (Bx bx3662 41 [.int .i64 ((rdD zT40 p1 x2928).Kind), .int .i64 ((rdD zT40 p1 x2928).I), .int .i64 ((rdD zT40 p1 x2928).At), .int .u32 ((rdD zT40 p1 x2928).Mask), .int .i64 ((rdD zT40 p1 x2928).Gram_From), .int .i64 ((rdD zT40 p1 x2928).Gram_To), .string ((rdD zT40 p1 x2928).Gram_Data)]) w_ o4328 416 ∧ Ft (RdC ET40 (some ad3658) p1) w_ o4328 0) → G 3 #[true, true, true, true, true, true, true, true, true, true, false, false, false] a_ w_ := by
          rintro a w4329 ⟨o4328, hk, hs, f19, f2924, f3663, f900020⟩
          refine xd_of hG ?_
          refine xd_take tab hk (k := 2) (is := [10]) (ls' := #[true, true, true, true, true, true, true, true, true, true, true, false, false]) (lv := []) (ks := [1, 5, 6, 7, 8, 55]) (e' := [(1, .slice (some ad3658) (p1).length cp1), (5, .pointer (some ⟨bx18, 0, none⟩)), (6, .int .i64 x2926), (7, .int .i64 x2927), (8, .int .i64 x2928), (55, .agg #[.int .i64 ((rdD zT40 p1 x2928).Gram_From), .int .i64 ((rdD zT40 p1 x2928).Gram_To), .string t4276])]) (by kernel_rfl) rfl rfl (by kernel_rfl) (np_then (np_then (np_blk (np_then (np_blk (np_then (np_then (np_blk (np_then np_body))))))))) ⟨f3663.now, trivial⟩ (fun W_ hS => trivial) fun a hk => ?_
          refine xd_op hk (i := 11) (by kernel_rfl) rfl rfl ?_
          refine op_alloc (o := o4328) tab (t := 29) (cs := [.int .i64 0, .int .i64 0, .string (⟨#[]⟩ : ByteArray)]) rfl rfl 419 fun bx4334 w4331 o4332 st4333 f4335 => ?_
          replace f19 := f19.st st4333 (by decide)
          replace f2924 := f2924.st st4333 (by decide)
          replace f3663 := f3663.st st4333 (by decide)
          replace f900020 := f900020.st st4333 (by decide)
          replace hs := hs.loc0 st4333 (by decide)
          have hk := hk.put 10 (.pointer (some ⟨bx4334, 0, none⟩)) rfl
          refine ⟨.inr ⟨f3663.now, trivial⟩, ?_⟩
          refine xd_op hk (i := 12) (by kernel_rfl) rfl rfl ?_
          refine op_store tab hk (t := 29) (v := .agg #[.int .i64 ((rdD zT40 p1 x2928).Gram_From), .int .i64 ((rdD zT40 p1 x2928).Gram_To), .string t4276]) (b := bx4334) (k := 0) (cs' := [.int .i64 ((rdD zT40 p1 x2928).Gram_From), .int .i64 ((rdD zT40 p1 x2928).Gram_To), .string t4276]) rfl rfl rfl rfl rfl rfl f4335 rfl rfl fun w4336 o4337 st4338 f4335_ => ?_
          replace f19 := f19.st st4338 (by decide)
          replace f2924 := f2924.st st4338 (by decide)
          replace f3663 := f3663.st st4338 (by decide)
          replace f900020 := f900020.st st4338 (by decide)
          replace hs := hs.loc0 st4338 (by decide)
          replace f4335 := f4335_
          refine ⟨.inl (by kernel_rfl), ?_⟩
          refine xd_done (by kernel_rfl) ?_
          refine then_n ?_
          exact ⟨(fun b_ => (fun l_ => if l_ = 417 then 408 else if l_ = 418 then 409 else if l_ = 419 then 410 else l_) (o4337 b_)), bx4334, (⟨(rdD zT40 p1 x2928).Gram_From, (rdD zT40 p1 x2928).Gram_To, t4276⟩ : T28), (by exact Kn.pick (ks := [1, 5, 6, 7, 8, 10]) hk rfl), (hs.relab0 (fun l_ => if l_ = 417 then 408 else if l_ = 418 then 409 else if l_ = 419 then 410 else l_) rfl), (f19.relab (fun l_ => if l_ = 417 then 408 else if l_ = 418 then 409 else if l_ = 419 then 410 else l_) rfl), (f2924.relab (fun l_ => if l_ = 417 then 408 else if l_ = 418 then 409 else if l_ = 419 then 410 else l_) rfl), (f4335.relab (fun l_ => if l_ = 417 then 408 else if l_ = 418 then 409 else if l_ = 419 then 410 else l_) rfl), (f900020.relab (fun l_ => if l_ = 417 then 408 else if l_ = 418 then 409 else if l_ = 419 then 410 else l_) rfl), H⟩
        have N4355 : ∀ (a_ : Act) (w_ : World), (∃ o4351 : Nat → Nat, ∃ bx4352 : Nat, Kn 98 a_ [(1, .slice (some ad3658) (p1).length cp1), (5, .pointer (some ⟨bx18, 0, none⟩)), (6, .int .i64 x2926), (7, .int .i64 x2927), (8, .int .i64 x2928), (10, .pointer (some ⟨bx4352, 0, none⟩)), (47, .int .i64 ((rdD zT40 p1 x2928).Gram_From)), (50, .int .i64 ((rdD zT40 p1 x2928).Gram_To)), (53, .string ((rdD zT40 p1 x2928).Gram_Data))] ∧ St [] w (fun _ => 0) w_ o4351 ∧ Ft (Bx bx18 56 [.int .i64 x2919, .int .i64 x2920, .slice A2921 (l2923).length c2922]) w_ o4351 423 ∧ Ft (Own ET28 29 (.slice A2921 (l2923).length c2922) l2923) w_ o4351 422 ∧ Ft (Bx bx3662 41 [.int .i64 ((rdD zT40 p1 x2928).Kind), .int .i64 ((rdD zT40 p1 x2928).I), .int .i64 ((rdD zT40 p1 x2928).At), .int .u32 ((rdD zT40 p1 x2928).Mask), .int .i64 ((rdD zT40 p1 x2928).Gram_From), .int .i64 ((rdD zT40 p1 x2928).Gram_To), .string ((rdD zT40 p1 x2928).Gram_Data)]) w_ o4351 421 ∧ Ft (Bx bx4352 29 [.int .i64 0, .int .i64 0, .string (⟨#[]⟩ : ByteArray)]) w_ o4351 424 ∧ Ft (RdC ET40 (some ad3658) p1) w_ o4351 0) → G 3 #[true, true, true, true, true, true, true, true, true, false, false, true, false] a_ w_ := by
          rintro a w4354 ⟨o4351, bx4352, hk, hs, f19, f2924, f3663, f4353, f900020⟩
          refine xd_of hG ?_
          refine xd_op hk (i := 9) (by kernel_rfl) rfl rfl ?_
          refine op_call hk ent_8 (vs := [.string ((rdD zT40 p1 x2928).Gram_Data), .int .i64 30]) rfl (tidewracklaw01_Cut_calls ((rdD zT40 p1 x2928).Gram_Data) 30 _ o4351    _ hc4277) ?_
          rintro _ w4359 ⟨o4360, rfl, st4361⟩
          replace f19 := f19.st st4361 (by decide)
          replace f2924 := f2924.st st4361 (by decide)
          replace f3663 := f3663.st st4361 (by decide)
          replace f4353 := f4353.st st4361 (by decide)
          replace f900020 := f900020.st st4361 (by decide)
          replace hs := hs.loc0 st4361 (by decide)
          have hk := hk.put 54 (.string t4276) rfl
          refine ⟨.inr ⟨f3663.now, trivial⟩, ?_⟩
          refine xd_take tab hk (k := 1) (is := [10]) (ls' := #[true, true, true, true, true, true, true, true, true, true, true, true, false]) (lv := []) (ks := [1, 5, 6, 7, 8, 10, 55]) (e' := [(1, .slice (some ad3658) (p1).length cp1), (5, .pointer (some ⟨bx18, 0, none⟩)), (6, .int .i64 x2926), (7, .int .i64 x2927), (8, .int .i64 x2928), (10, .pointer (some ⟨bx4352, 0, none⟩)), (55, .agg #[.int .i64 ((rdD zT40 p1 x2928).Gram_From), .int .i64 ((rdD zT40 p1 x2928).Gram_To), .string t4276])]) (by kernel_rfl) rfl rfl (by kernel_rfl) (np_then (np_then (np_blk (np_then (np_blk (np_then (np_then (np_blk (np_then np_body))))))))) ⟨f3663.now, trivial⟩ (fun W_ hS => trivial) fun a hk => ?_
          refine xd_op hk (i := 12) (by kernel_rfl) rfl rfl ?_
          refine op_store tab hk (t := 29) (v := .agg #[.int .i64 ((rdD zT40 p1 x2928).Gram_From), .int .i64 ((rdD zT40 p1 x2928).Gram_To), .string t4276]) (b := bx4352) (k := 0) (cs' := [.int .i64 ((rdD zT40 p1 x2928).Gram_From), .int .i64 ((rdD zT40 p1 x2928).Gram_To), .string t4276]) rfl rfl rfl rfl rfl rfl f4353 rfl rfl fun w4362 o4363 st4364 f4353_ => ?_
          replace f19 := f19.st st4364 (by decide)
          replace f2924 := f2924.st st4364 (by decide)
          replace f3663 := f3663.st st4364 (by decide)
          replace f900020 := f900020.st st4364 (by decide)
          replace hs := hs.loc0 st4364 (by decide)
          replace f4353 := f4353_
          refine ⟨.inl (by kernel_rfl), ?_⟩
          refine xd_done (by kernel_rfl) ?_
          refine then_n ?_
          exact ⟨(fun b_ => (fun l_ => if l_ = 422 then 408 else if l_ = 423 then 409 else if l_ = 424 then 410 else l_) (o4363 b_)), bx4352, (⟨(rdD zT40 p1 x2928).Gram_From, (rdD zT40 p1 x2928).Gram_To, t4276⟩ : T28), (by exact Kn.pick (ks := [1, 5, 6, 7, 8, 10]) hk rfl), (hs.relab0 (fun l_ => if l_ = 422 then 408 else if l_ = 423 then 409 else if l_ = 424 then 410 else l_) rfl), (f19.relab (fun l_ => if l_ = 422 then 408 else if l_ = 423 then 409 else if l_ = 424 then 410 else l_) rfl), (f2924.relab (fun l_ => if l_ = 422 then 408 else if l_ = 423 then 409 else if l_ = 424 then 410 else l_) rfl), (f4353.relab (fun l_ => if l_ = 422 then 408 else if l_ = 423 then 409 else if l_ = 424 then 410 else l_) rfl), (f900020.relab (fun l_ => if l_ = 422 then 408 else if l_ = 423 then 409 else if l_ = 424 then 410 else l_) rfl), H⟩
        refine xd_of hG ?_
        refine xd_take tab hk (k := 4) (is := [0, 1, 2, 3, 4, 5, 6, 7, 8]) (ls' := #[true, true, true, true, true, true, true, true, true, false, false, false, false]) (lv := [.int .i64 ((rdD zT40 p1 x2928).Gram_From), .int .i64 ((rdD zT40 p1 x2928).Gram_To), .string ((rdD zT40 p1 x2928).Gram_Data)]) (ks := [1, 5, 6, 7, 8, 47, 50, 53]) (e' := [(1, .slice (some ad3658) (p1).length cp1), (5, .pointer (some ⟨bx18, 0, none⟩)), (6, .int .i64 x2926), (7, .int .i64 x2927), (8, .int .i64 x2928), (47, .int .i64 ((rdD zT40 p1 x2928).Gram_From)), (50, .int .i64 ((rdD zT40 p1 x2928).Gram_To)), (53, .string ((rdD zT40 p1 x2928).Gram_Data))]) (by kernel_rfl) rfl rfl (by kernel_rfl) (np_then (np_then (np_blk (np_then (np_blk (np_then (np_then (np_blk (np_then np_body))))))))) ⟨f3663.now, trivial⟩ (fun W_ hS => ⟨(load1 tab rfl ((Bx.cell hS.1 4).trans rfl)), (load1 tab rfl ((Bx.cell hS.1 5).trans rfl)), (load1 tab rfl ((Bx.cell hS.1 6).trans rfl)), trivial⟩) fun a hk => ?_
        refine xd_each [9, 11] (by kernel_rfl) rfl ⟨?_, ?_, trivial⟩
        · refine xd_one hk rfl rfl ?_
          refine op_call hk ent_8 (vs := [.string ((rdD zT40 p1 x2928).Gram_Data), .int .i64 30]) rfl (tidewracklaw01_Cut_calls ((rdD zT40 p1 x2928).Gram_Data) 30 _ o3665    _ hc4277) ?_
          rintro _ w4322 ⟨o4323, rfl, st4324⟩
          replace f19 := f19.st st4324 (by decide)
          replace f2924 := f2924.st st4324 (by decide)
          replace f3663 := f3663.st st4324 (by decide)
          replace f900020 := f900020.st st4324 (by decide)
          replace hs := hs.loc0 st4324 (by decide)
          have hk := hk.put 54 (.string t4276) rfl
          refine ⟨.inr ⟨f3663.now, trivial⟩, ?_⟩
          exact xd_to hG rfl (N4330 _ _ ⟨(fun b_ => (fun l_ => if l_ = 356 then 417 else if l_ = 357 then 418 else if l_ = 358 then 416 else l_) (o4323 b_)), (by exact Kn.pick (ks := [1, 5, 6, 7, 8, 47, 50, 54]) hk rfl), (hs.relab0 (fun l_ => if l_ = 356 then 417 else if l_ = 357 then 418 else if l_ = 358 then 416 else l_) rfl), (f19.relab (fun l_ => if l_ = 356 then 417 else if l_ = 357 then 418 else if l_ = 358 then 416 else l_) rfl), (f2924.relab (fun l_ => if l_ = 356 then 417 else if l_ = 357 then 418 else if l_ = 358 then 416 else l_) rfl), (f3663.relab (fun l_ => if l_ = 356 then 417 else if l_ = 357 then 418 else if l_ = 358 then 416 else l_) rfl), (f900020.relab (fun l_ => if l_ = 356 then 417 else if l_ = 357 then 418 else if l_ = 358 then 416 else l_) rfl)⟩)
        · refine xd_one hk rfl rfl ?_
          refine op_alloc (o := o3665) tab (t := 29) (cs := [.int .i64 0, .int .i64 0, .string (⟨#[]⟩ : ByteArray)]) rfl rfl 420 fun bx4342 w4339 o4340 st4341 f4343 => ?_
          replace f19 := f19.st st4341 (by decide)
          replace f2924 := f2924.st st4341 (by decide)
          replace f3663 := f3663.st st4341 (by decide)
          replace f900020 := f900020.st st4341 (by decide)
          replace hs := hs.loc0 st4341 (by decide)
          have hk := hk.put 10 (.pointer (some ⟨bx4342, 0, none⟩)) rfl
          refine ⟨.inr ⟨f3663.now, trivial⟩, ?_⟩
          exact xd_to hG rfl (N4355 _ _ ⟨(fun b_ => (fun l_ => if l_ = 356 then 422 else if l_ = 357 then 423 else if l_ = 358 then 421 else if l_ = 420 then 424 else l_) (o4340 b_)), bx4342, (by exact Kn.pick (ks := [1, 5, 6, 7, 8, 10, 47, 50, 53]) hk rfl), (hs.relab0 (fun l_ => if l_ = 356 then 422 else if l_ = 357 then 423 else if l_ = 358 then 421 else if l_ = 420 then 424 else l_) rfl), (f19.relab (fun l_ => if l_ = 356 then 422 else if l_ = 357 then 423 else if l_ = 358 then 421 else if l_ = 420 then 424 else l_) rfl), (f2924.relab (fun l_ => if l_ = 356 then 422 else if l_ = 357 then 423 else if l_ = 358 then 421 else if l_ = 420 then 424 else l_) rfl), (f3663.relab (fun l_ => if l_ = 356 then 422 else if l_ = 357 then 423 else if l_ = 358 then 421 else if l_ = 420 then 424 else l_) rfl), (f4343.relab (fun l_ => if l_ = 356 then 422 else if l_ = 357 then 423 else if l_ = 358 then 421 else if l_ = 420 then 424 else l_) rfl), (f900020.relab (fun l_ => if l_ = 356 then 422 else if l_ = 357 then 423 else if l_ = 358 then 421 else if l_ = 420 then 424 else l_) rfl)⟩)
    refine x_seq ?_
    refine wpIn_region_lit ?_
    refine x_run tab hk (k := 5) (lv := []) (ks := [1, 5, 6, 7, 8, 23]) (e' := [(1, .slice Ap1 (p1).length cp1), (5, .pointer (some ⟨bx18, 0, none⟩)), (6, .int .i64 x2926), (7, .int .i64 x2927), (8, .int .i64 x2928), (23, .bool (decide (x2928 < ((p1).length : Int))))]) rfl trivial fun a hk => ?_
    cases b4365 : (decide (x2928 < ((p1).length : Int)))
    · rw [b4365] at hk H
      replace H := bifF H
      refine x_run tab hk (k := 3) (lv := []) (ks := [1, 5, 6, 7, 8, 26]) (e' := [(1, .slice Ap1 (p1).length cp1), (5, .pointer (some ⟨bx18, 0, none⟩)), (6, .int .i64 x2926), (7, .int .i64 x2927), (8, .int .i64 x2928), (26, .bool false)]) rfl trivial fun a hk => ?_
      refine wpListIn_nil ?_
      refine then_n ?_
      refine x_if hk (b := false) rfl ?_
      refine (show Code.wpIn _ _ _ _ _ _ _ from ?_)
      refine wpIn_exit ?_
      refine then_x ?_
      refine then_x ?_
      refine blk_x ?_
      refine then_n ?_
      exact ⟨o2918, (by exact Kn.pick (ks := []) hk rfl), hs, H⟩
    · rw [b4365] at hk H
      replace H := bifT H
      refine x_run tab hk (k := 3) (lv := []) (ks := [1, 5, 6, 7, 8, 26]) (e' := [(1, .slice Ap1 (p1).length cp1), (5, .pointer (some ⟨bx18, 0, none⟩)), (6, .int .i64 x2926), (7, .int .i64 x2927), (8, .int .i64 x2928), (26, .bool (decide (x2928 < (40 : Int))))]) rfl trivial fun a hk => ?_
      refine wpListIn_nil ?_
      refine then_n ?_
      cases b4366 : (decide (x2928 < (40 : Int)))
      · rw [b4366] at hk H
        replace H := bifF H
        refine x_if hk (b := false) rfl ?_
        refine (show Code.wpIn _ _ _ _ _ _ _ from ?_)
        refine wpIn_exit ?_
        refine then_x ?_
        refine then_x ?_
        refine blk_x ?_
        refine then_n ?_
        exact ⟨o2918, (by exact Kn.pick (ks := []) hk rfl), hs, H⟩
      · rw [b4366] at hk H
        replace H := bifT H
        refine x_if hk (b := true) rfl ?_
        refine (show Code.wpIn _ _ _ _ _ _ _ from ?_)
        refine wpIn_skip ?_
        refine then_n ?_
        exact ⟨(fun b_ => (fun l_ => if l_ = 285 then 356 else if l_ = 286 then 357 else l_) (o2918 b_)), (by exact Kn.pick (ks := [1, 5, 6, 7, 8]) hk rfl), (hs.relab0 (fun l_ => if l_ = 285 then 356 else if l_ = 286 then 357 else l_) rfl), (f19.relab (fun l_ => if l_ = 285 then 356 else if l_ = 286 then 357 else l_) rfl), (f2924.relab (fun l_ => if l_ = 285 then 356 else if l_ = 286 then 357 else l_) rfl), (f900020.relab (fun l_ => if l_ = 285 then 356 else if l_ = 286 then 357 else l_) rfl), H⟩
  · rw [b9] at hk H
    replace H := bifT H
    refine x_if hk (b := true) rfl ?_
    refine (show Code.wpIn _ _ _ _ _ _ _ from ?_)
    refine x_seq ?_
    refine wpIn_region_lit ?_
    refine x_run tab hk (k := 1) (lv := []) (ks := [4]) (e' := [(4, .bool false)]) rfl trivial fun a hk => ?_
    refine wpListIn_nil ?_
    refine then_n ?_
    refine wpIn_ret ?_
    refine then_r ?_
    obtain rfl := Option.some.inj H
    exact x_retG hk (rs := [.tmp 4]) (vs := [.bool false]) rfl ⟨rfl, trivial⟩ ⟨fun b_ => if b_ < w.heap.size then o b_ else (fun _ => 0) (o7 b_), rfl, hs.close0 o (fun _ => 0)⟩

end Go.Proofs.Ytknddjjgidaedaa
