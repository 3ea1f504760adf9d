/- Plain laws: what the plain functions answer, with no program in sight. -/
/- slices.SortFunc by Cache.Order's closure, at this seat's program: by the kit's shelf. -/
import Derived.Test.YthmlldkmgdjeoaaW0
import Derived.Test.YthmlldkmgdjeoaaS
import Derived.Test.YthmlldkmgdjeoaaY45
set_option linter.unusedVariables false
set_option linter.unusedSimpArgs false
namespace Go.Proofs.Ythmlldkmgdjeoaa
open Go Go.Proofs.XC
theorem compare_lib (x y : Int) : cmp_Compare x y = some (Lib.compareInt x y) := by
  unfold cmp_Compare cmp_isNaN
  simp only [Option.bind_some, bne_self_eq_false, cond_false]
  unfold Lib.compareInt
  by_cases h1 : x < y
  · rw [if_pos h1, decide_eq_true h1, cond_true]
  · rw [if_neg h1, decide_eq_false h1, cond_false]
    by_cases h2 : y < x
    · rw [if_pos h2, decide_eq_true (show x > y from h2), cond_true]
    · rw [if_neg h2, decide_eq_false (show ¬ x > y from h2), cond_false]
theorem cmp_exact (x y : Int) (w : World) (r : Int) (H : cmp_Compare x y = some r) : Calls Try.prog 28 #[.int .i64 x, .int .i64 y] w (Ret fun v_ w' => v_ = .int .i64 r ∧ w' = w) := by
  have e : r = Lib.compareInt x y := by rw [compare_lib] at H; exact (Option.some.inj H).symm
  subst e
  refine Calls.mono (Go.Proofs.AnyG.cmp_Compare_int Try.cmpC x y w) fun e w' he => ?_
  obtain ⟨rfl, rfl⟩ := he
  exact ⟨_, rfl, rfl, rfl⟩
theorem order_exact (p0 : Int) (p1 : Int) (bp2 : Nat) (bq2 : Nat) (Aq2_0 : Option Addr) (cq2_0 : Nat) (p2 : T62) (w : World) (o : Nat → Nat) (LF : Nat) (Lp2 : Nat) (hp2 : Ft (Bx bp2 24 [.pointer (some ⟨bq2, 0, none⟩)]) w o Lp2) (Lq2 : Nat) (hq2 : Ft (Bx bq2 63 [.int .i64 p2.most, .int .i64 p2.now, mv Aq2_0]) w o Lq2) (Lq2_0 : Nat) (hq2_0 : MpN dT71 true Aq2_0 p2.l w o Lq2_0 LF) (hcq2_0 : (p2.l).length ≤ cq2_0) (hd0 : ([LF] : List Nat).Nodup) (hd1 : Lp2 ∉ [LF]) (hd2 : Lq2 ∉ [LF]) (hd3 : Lq2_0 ∉ [LF]) (r : Int) (H : cache_Cache_Order_1 p0 p1 p2 = some r) :
    Calls Try.prog 32 #[.int .i64 p0, .int .i64 p1, .pointer (some ⟨bp2, 0, none⟩)] w (Ret fun v_ w' => v_ = .int .i64 r ∧ w' = w.drew) := by
  refine x_enter (vs := [.int .i64 p0, .int .i64 p1, .pointer (some ⟨bp2, 0, none⟩)]) Try.func32 rfl rfl rfl fun a hk => ?_
  obtain ⟨oi, hs0, h0, h1, hob, hoz, hoa⟩ := St.startM2 w o (m := 1) hd0 rfl
  have hs := hs0 []
  have f9500040 := h0 _ _ hd1 hp2
  have f9600040 := h0 _ _ hd2 hq2
  have f9700800 := hq2_0.conv (fun P_ => h0 P_ _ hd3) (fun _ h_ => h1 0 1 h_ rfl rfl)
  clear h0 h1 hs0
  rw [cache_Cache_Order_1] at H
  refine x_seq ?_
  refine wpIn_region_lit ?_
  refine x_run tab hk (k := 1) (lv := []) (ks := [0, 1, 2]) (e' := [(0, .int .i64 p0), (1, .int .i64 p1), (2, .pointer (some ⟨bp2, 0, none⟩))]) rfl trivial fun a hk => ?_
  refine wpListIn_nil ?_
  refine then_n ?_
  refine x_seq ?_
  obtain ⟨A19, c20, f21, f22, hc23⟩ := lkT71 f9700800 (P := Try.prog) tab (mt := 61) rfl rfl rfl rfl p0
  obtain ⟨A24, c25, f26, f27, hc28⟩ := lkT71 f9700800 (P := Try.prog) tab (mt := 61) rfl rfl rfl rfl p1
  obtain ⟨t32, hc33, H⟩ := bindS H
  have st44 := drew_st w oi
  refine xd_beginE (fun W_ => (LookIs Try.prog 61 (mv Aq2_0) p0 (.agg #[.slice A19 ((M.get zT71 p2.l p0).l).length c20, .int .i64 ((M.get zT71 p2.l p0).at_)]) (M.has p2.l p0)) W_ ∧ (LookIs Try.prog 61 (mv Aq2_0) p1 (.agg #[.slice A24 ((M.get zT71 p2.l p1).l).length c25, .int .i64 ((M.get zT71 p2.l p1).at_)]) (M.has p2.l p1)) W_ ∧ (Bx bp2 24 [.pointer (some ⟨bq2, 0, none⟩)]) W_ ∧ (Bx bq2 63 [.int .i64 p2.most, .int .i64 p2.now, mv Aq2_0]) W_ ∧ True) mixed rfl rfl ?_
  replace f21 := f21.st st44 (by decide)
  replace f22 := f22.st st44 (by decide)
  replace f26 := f26.st st44 (by decide)
  replace f27 := f27.st st44 (by decide)
  replace f9500040 := f9500040.st st44 (by decide)
  replace f9600040 := f9600040.st st44 (by decide)
  replace f9700800 := f9700800.st st44 (by decide)
  replace hs := hs.locQ st44 hob rfl
  refine xd_take tab hk (k := 2) (is := [0, 1, 2, 3, 4, 5, 6, 7, 8, 9, 10, 11, 12, 13]) (ls' := #[true, true, true, true, true, true, true, true, true, true, true, true, true, true, false, false]) (lv := [.pointer (some ⟨bq2, 0, none⟩), mv Aq2_0, .agg #[.slice A19 ((M.get zT71 p2.l p0).l).length c20, .int .i64 ((M.get zT71 p2.l p0).at_)], .pointer (some ⟨bq2, 0, none⟩), mv Aq2_0, .agg #[.slice A24 ((M.get zT71 p2.l p1).l).length c25, .int .i64 ((M.get zT71 p2.l p1).at_)]]) (ks := [12, 19]) (e' := [(12, .int .i64 ((M.get zT71 p2.l p0).at_)), (19, .int .i64 ((M.get zT71 p2.l p1).at_))]) (by kernel_rfl) rfl rfl (by kernel_rfl) (np_then np_body) ⟨f21.now, f26.now, f9500040.now, f9600040.now, trivial⟩ (fun W_ hS => ⟨(load1 tab rfl ((Bx.cell hS.2.2.1 0).trans rfl)), (load1 tab rfl ((Bx.cell hS.2.2.2.1 2).trans rfl)), (ask_look3 hS.1 rfl rfl), (load1 tab rfl ((Bx.cell hS.2.2.1 0).trans rfl)), (load1 tab rfl ((Bx.cell hS.2.2.2.1 2).trans rfl)), (ask_look3 hS.2.1 rfl rfl), trivial⟩) fun a hk => ?_
  refine xd_op hk (i := 14) (by kernel_rfl) rfl rfl ?_
  refine op_call hk ent_28 (vs := [.int .i64 ((M.get zT71 p2.l p0).at_), .int .i64 ((M.get zT71 p2.l p1).at_)]) rfl (cmp_exact ((M.get zT71 p2.l p0).at_) ((M.get zT71 p2.l p1).at_) _ _ hc33) ?_
  rintro _ _ ⟨rfl, rfl⟩
  have st50 := St.refl [] w.drew oi
  replace f21 := f21.st st50 (by decide)
  replace f22 := f22.st st50 (by decide)
  replace f26 := f26.st st50 (by decide)
  replace f27 := f27.st st50 (by decide)
  replace f9500040 := f9500040.st st50 (by decide)
  replace f9600040 := f9600040.st st50 (by decide)
  replace f9700800 := f9700800.st st50 (by decide)
  replace hs := hs.locQ st50 hob rfl
  have hk := hk.put 20 (.int .i64 t32) rfl
  refine ⟨.inr ⟨f21.now, f26.now, f9500040.now, f9600040.now, trivial⟩, ?_⟩
  refine xd_take tab hk (k := 0) (is := [15]) (ls' := #[true, true, true, true, true, true, true, true, true, true, true, true, true, true, true, true]) (lv := []) (ks := [5]) (e' := [(5, .int .i64 t32)]) (by kernel_rfl) rfl rfl (by kernel_rfl) (np_then np_body) ⟨f21.now, f26.now, f9500040.now, f9600040.now, trivial⟩ (fun W_ hS => trivial) fun a hk => ?_
  refine xd_done (by kernel_rfl) ?_
  refine then_n ?_
  refine wpIn_ret ?_
  obtain rfl := Option.some.inj H
  exact x_retG hk (rs := [.tmp 5]) (vs := [.int .i64 t32]) rfl ⟨rfl, trivial⟩ ⟨rfl, rfl⟩
theorem order_exact_of (x y : Int) (bp bq : Nat) (Am : Option Addr) (p : T62) (w : World) (o : Nat → Nat) (Lp Lq Lm LF : Nat) (hp : Ft (Bx bp 24 [.pointer (some ⟨bq, 0, none⟩)]) w o Lp) (hq : Ft (Bx bq 63 [.int .i64 p.most, .int .i64 p.now, mv Am]) w o Lq) (hm : MpN dT71 true Am p.l w o Lm LF) (h1 : LF ≠ Lp) (h2 : LF ≠ Lq) (h3 : LF ≠ Lm) :
    Calls Try.prog 32 #[.int .i64 x, .int .i64 y, .pointer (some ⟨bp, 0, none⟩)] w fun e w' => e = .returned (.int .i64 (Lib.compareInt (M.get zT71 p.l x).at_ (M.get zT71 p.l y).at_)) ∧ w' = w.drew := by
  have hc : cmp_Compare (M.get zT71 p.l x).at_ (M.get zT71 p.l y).at_ = some (Lib.compareInt (M.get zT71 p.l x).at_ (M.get zT71 p.l y).at_) := compare_lib _ _
  refine Calls.mono (order_exact x y bp bq Am p.l.length p w o LF Lp hp Lq hq Lm hm (Nat.le_refl _) (by simp) (by simpa using fun e => h1 e.symm) (by simpa using fun e => h2 e.symm) (by simpa using fun e => h3 e.symm) (Lib.compareInt (M.get zT71 p.l x).at_ (M.get zT71 p.l y).at_) (by unfold cache_Cache_Order_1; rw [hc]; rfl)) fun e w' he => ?_
  obtain ⟨v, rfl, rfl, rfl⟩ := he
  exact ⟨rfl, rfl⟩
theorem sort48_calls (A : Option Addr) (c : Nat) (ks : List Int) (bp bq : Nat) (Am : Option Addr) (p : T62) (w : World) (o : Nat → Nat) {Lr Lp Lq Lm LF : Nat} (hr : Ft (Own (encInt .i64) 3 (.slice A ks.length c) ks) w o Lr) (hsz : ks.length ≤ 1000000000)
    (hp : Ft (Bx bp 24 [.pointer (some ⟨bq, 0, none⟩)]) w o Lp) (hq : Ft (Bx bq 63 [.int .i64 p.most, .int .i64 p.now, mv Am]) w o Lq) (hm : MpN dT71 true Am p.l w o Lm LF) (hd : Lr ∉ [Lp, Lq, Lm, LF]) (hd2 : LF ∉ [Lp, Lq, Lm]) :
    Calls Try.prog 48 #[.slice A ks.length c, .func (.func 32) #[] #[.pointer (some ⟨bp, 0, none⟩)]] w (Ret fun v_ w' => ∃ o' : Nat → Nat, ∃ ks' : List Int, v_ = .tuple #[] ∧ St [Lr] w o w' o' ∧ (ks'.Perm ks ∧ ks'.Pairwise fun a b => (M.get zT71 p.l a).at_ ≤ (M.get zT71 p.l b).at_) ∧ Ft (Own (encInt .i64) 3 (.slice A ks.length c) ks') w' o' Lr) := by
  simp only [List.mem_cons, List.not_mem_nil, or_false, not_or] at hd hd2
  have hlt : ∀ x y : Int, Go.Proofs.ltOf (fun a b => Lib.compareInt (M.get zT71 p.l a).at_ (M.get zT71 p.l b).at_) x y = decide ((M.get zT71 p.l x).at_ < (M.get zT71 p.l y).at_) := fun x y => by
    unfold Go.Proofs.ltOf Lib.compareInt
    by_cases h1 : (M.get zT71 p.l x).at_ < (M.get zT71 p.l y).at_
    · simp [h1]
    · by_cases h2 : (M.get zT71 p.l y).at_ < (M.get zT71 p.l x).at_ <;> simp [h1, h2]
  refine Calls.mono (sort_of Try.sortF 32 #[.pointer (some ⟨bp, 0, none⟩)] (enters_of' Try.func32 (by kernel_rfl) rfl) (fun a b => Lib.compareInt (M.get zT71 p.l a).at_ (M.get zT71 p.l b).at_)
    ⟨fun x => by rw [hlt]; simp, fun x y z h1 h2 => by rw [hlt] at *; simp at *; omega, fun x y z h1 h2 => by rw [hlt] at *; simp at *; omega⟩ A c ks w o hr hsz fun W hW x y => ?_) fun e w' he => ?_
  · have h1 : Lp ∉ [Lr] := by simp; exact fun e => hd.1 e.symm
    have h2 : Lq ∉ [Lr] := by simp; exact fun e => hd.2.1 e.symm
    have h3 : Lm ∉ [Lr] := by simp; exact fun e => hd.2.2.1 e.symm
    have h4 : LF ∉ [Lr] := by simp; exact fun e => hd.2.2.2 e.symm
    have hx := order_exact_of x y bp bq Am p W o Lp Lq Lm LF (hp.st hW h1) (hq.st hW h2) (hm.st hW ⟨h3, h4⟩) hd2.1 hd2.2.1 hd2.2.2
    exact hx
  · obtain ⟨v, rfl, o', ks', rfl, h1, ⟨h2, h3⟩, h4⟩ := he
    refine ⟨_, rfl, o', ks', rfl, h1, ⟨h2, h3.imp fun {a b} hab => ?_⟩, h4⟩
    have hx := hlt b a
    unfold Go.Proofs.ltOf at hx
    rw [decide_eq_false (Int.not_lt.2 hab)] at hx
    have := of_decide_eq_false hx.symm
    omega
end Go.Proofs.Ythmlldkmgdjeoaa
