/- Walks, printed by an own program: the machine's calls compute the plain functions. -/
import Derived.Test.YtmolecadkgffkaaDoorW1
set_option linter.unusedVariables false
set_option linter.unusedSimpArgs false
namespace Go.Proofs.YtmolecadkgffkaaDoor
open Go Go.Proofs.XC
/-! tidewrack/tidewracklaw01.Cut -/
theorem tidewracklaw01_Cut_calls (p0 : ByteArray) (p1 : Int) (w : World) (o : Nat → Nat)   (r : ByteArray) (H : tidewracklaw01_Cut p0 p1 = some r) :
    Calls Tryd.prog 8 #[.string p0, .int .i64 p1] w (Ret fun v_ w' => ∃ o' : Nat → Nat, v_ = .string r ∧ St [] w o w' o') := by
  refine x_enter (vs := [.string p0, .int .i64 p1]) Tryd.func8 rfl rfl rfl fun a hk => ?_
  obtain ⟨o0, hs, h0⟩ := St.start w o
  clear h0
  rw [tidewracklaw01_Cut] at H
  refine x_seq ?_
  refine wpIn_region_lit ?_
  refine x_run tab hk (k := 1) (lv := []) (ks := [0, 1]) (e' := [(0, .string p0), (1, .int .i64 p1)]) rfl trivial fun a hk => ?_
  refine wpListIn_nil ?_
  refine then_n ?_
  refine x_seq ?_
  refine x_seq ?_
  refine wpIn_region_lit ?_
  refine x_run tab hk (k := 4) (lv := []) (ks := [0, 1, 8]) (e' := [(0, .string p0), (1, .int .i64 p1), (8, .bool (decide (((p0).size : Int) > p1)))]) rfl trivial fun a hk => ?_
  refine wpListIn_nil ?_
  refine then_n ?_
  cases b1 : (decide (((p0).size : Int) > p1))
  · rw [b1] at hk H
    replace H := bifF H
    refine x_if hk (b := false) rfl ?_
    refine (show Code.wpIn _ _ _ _ _ _ _ from ?_)
    refine wpIn_skip ?_
    refine then_n ?_
    refine x_seq ?_
    refine wpIn_region_lit ?_
    refine x_run tab hk (k := 2) (lv := []) (ks := [4]) (e' := [(4, .string p0)]) rfl trivial fun a hk => ?_
    refine wpListIn_nil ?_
    refine then_n ?_
    refine wpIn_ret ?_
    obtain rfl := Option.some.inj H
    exact x_retG hk (rs := [.tmp 4]) (vs := [.string p0]) rfl ⟨rfl, trivial⟩ ⟨fun b_ => if b_ < w.heap.size then o b_ else (fun _ => 0) (o0 b_), rfl, hs.close0 o (fun _ => 0)⟩
  · rw [b1] at hk H
    replace H := bifT H
    refine x_if hk (b := true) rfl ?_
    refine (show Code.wpIn _ _ _ _ _ _ _ from ?_)
    refine x_seq ?_
    refine wpIn_region_lit ?_
    obtain ⟨q2, H⟩ := ifS H
    obtain ⟨q3, H⟩ := ifS H
    refine x_run tab hk (k := 4) (lv := []) (ks := [4]) (e' := [(4, .string (ByteArray.extract p0 0 (Int.toNat p1)))]) rfl ⟨q2, q3, trivial⟩ fun a hk => ?_
    refine wpListIn_nil ?_
    refine then_n ?_
    refine wpIn_ret ?_
    refine then_r ?_
    obtain rfl := Option.some.inj H
    exact x_retG hk (rs := [.tmp 4]) (vs := [.string (ByteArray.extract p0 0 (Int.toNat p1))]) rfl ⟨rfl, trivial⟩ ⟨fun b_ => if b_ < w.heap.size then o b_ else (fun _ => 0) (o0 b_), rfl, hs.close0 o (fun _ => 0)⟩

/-! tidewrack/tidewrackref27.Form -/
set_option maxHeartbeats 4000000 in
set_option maxRecDepth 20000 in
theorem tidewrackref27_Form_calls (p0 : ByteArray) (w : World) (o : Nat → Nat)   (r : Int × Bool) (H : tidewrackref27_Form p0 = some r) :
    Calls Tryd.prog 16 #[.string p0] w (Ret fun v_ w' => ∃ o' : Nat → Nat, v_ = .tuple #[.int .i64 r.1, .bool r.2] ∧ St [] w o w' o') := by
  refine x_enter (vs := [.string p0]) Tryd.func16 rfl rfl rfl fun a hk => ?_
  obtain ⟨o0, hs, h0⟩ := St.start w o
  clear h0
  rw [tidewrackref27_Form] at H
  refine x_seq ?_
  refine wpIn_region_lit ?_
  refine x_run tab hk (k := 2) (lv := []) (ks := [0]) (e' := [(0, .string p0)]) rfl trivial fun a hk => ?_
  refine wpListIn_nil ?_
  refine then_n ?_
  refine x_seq ?_
  refine x_seq ?_
  refine wpIn_region_lit ?_
  refine x_run tab hk (k := 1) (lv := []) (ks := [4]) (e' := [(4, .string p0)]) rfl trivial fun a hk => ?_
  refine wpListIn_nil ?_
  refine then_n ?_
  refine wpIn_block ?_
  refine x_mid (fun a_ w_ => ∃ o12 : Nat → Nat, ∃ x13 : Bool, Kn 32 a_ [(4, .string p0), (5, .bool x13)] ∧ St [] w (fun _ => 0) w_ o12 ∧ tidewrackref27_Form_j1 p0 x13 = some r) ?_ ?_
  rotate_left
  · rintro a w14 ⟨o12, x13, hk, hs, H⟩
    unfold tidewrackref27_Form_j1 at H
    cases b15 : x13
    · rw [b15] at hk H
      replace H := bifF H
      refine x_if hk (b := false) rfl ?_
      refine (show Code.wpIn _ _ _ _ _ _ _ from ?_)
      refine x_seq ?_
      refine wpIn_region_lit ?_
      refine x_run tab hk (k := 2) (lv := []) (ks := [4, 12]) (e' := [(4, .string p0), (12, .bool (ByteArray.toList p0 == ByteArray.toList (⟨#[100, 111]⟩ : ByteArray)))]) rfl trivial fun a hk => ?_
      refine wpListIn_nil ?_
      refine then_n ?_
      cases b16 : (ByteArray.toList p0 == ByteArray.toList (⟨#[100, 111]⟩ : ByteArray))
      · rw [b16] at hk H
        replace H := bifF H
        refine x_if hk (b := false) rfl ?_
        refine (show Code.wpIn _ _ _ _ _ _ _ from ?_)
        refine x_mid (fun a_ w_ => ∃ o28 : Nat → Nat, ∃ x29 : Bool, Kn 32 a_ [(4, .string p0), (14, .bool x29)] ∧ St [] w (fun _ => 0) w_ o28 ∧ tidewrackref27_Form_j2 p0 x29 = some r) ?_ ?_
        rotate_left
        · rintro a w30 ⟨o28, x29, hk, hs, H⟩
          unfold tidewrackref27_Form_j2 at H
          cases b31 : x29
          · rw [b31] at hk H
            replace H := bifF H
            refine x_if hk (b := false) rfl ?_
            refine (show Code.wpIn _ _ _ _ _ _ _ from ?_)
            refine x_mid (fun a_ w_ => ∃ o40 : Nat → Nat, ∃ x41 : Bool, Kn 32 a_ [(4, .string p0), (21, .bool x41)] ∧ St [] w (fun _ => 0) w_ o40 ∧ tidewrackref27_Form_j3 p0 x41 = some r) ?_ ?_
            rotate_left
            · rintro a w42 ⟨o40, x41, hk, hs, H⟩
              unfold tidewrackref27_Form_j3 at H
              cases b43 : x41
              · rw [b43] at hk H
                replace H := bifF H
                refine x_if hk (b := false) rfl ?_
                refine (show Code.wpIn _ _ _ _ _ _ _ from ?_)
                refine x_mid (fun a_ w_ => ∃ o51 : Nat → Nat, ∃ x52 : Bool, Kn 32 a_ [(4, .string p0), (25, .bool x52)] ∧ St [] w (fun _ => 0) w_ o51 ∧ tidewrackref27_Form_j4 p0 x52 = some r) ?_ ?_
                rotate_left
                · rintro a w53 ⟨o51, x52, hk, hs, H⟩
                  unfold tidewrackref27_Form_j4 at H
                  cases b54 : x52
                  · rw [b54] at hk H
                    replace H := bifF H
                    refine x_if hk (b := false) rfl ?_
                    refine (show Code.wpIn _ _ _ _ _ _ _ from ?_)
                    refine x_seq ?_
                    refine wpIn_region_lit ?_
                    refine x_run tab hk (k := 2) (lv := []) (ks := [4, 28]) (e' := [(4, .string p0), (28, .bool (ByteArray.toList p0 == ByteArray.toList (⟨#[102, 111, 114, 103, 101]⟩ : ByteArray)))]) rfl trivial fun a hk => ?_
                    refine wpListIn_nil ?_
                    refine then_n ?_
                    cases b55 : (ByteArray.toList p0 == ByteArray.toList (⟨#[102, 111, 114, 103, 101]⟩ : ByteArray))
                    · rw [b55] at hk H
                      replace H := bifF H
                      refine x_if hk (b := false) rfl ?_
                      refine (show Code.wpIn _ _ _ _ _ _ _ from ?_)
                      refine x_seq ?_
                      refine wpIn_region_lit ?_
                      refine x_run tab hk (k := 2) (lv := []) (ks := [30]) (e' := [(30, .bool (ByteArray.toList p0 == ByteArray.toList (⟨#[115, 101, 115, 115, 105, 111, 110]⟩ : ByteArray)))]) rfl trivial fun a hk => ?_
                      refine wpListIn_nil ?_
                      refine then_n ?_
                      cases b56 : (ByteArray.toList p0 == ByteArray.toList (⟨#[115, 101, 115, 115, 105, 111, 110]⟩ : ByteArray))
                      · rw [b56] at hk H
                        replace H := bifF H
                        refine x_if hk (b := false) rfl ?_
                        refine (show Code.wpIn _ _ _ _ _ _ _ from ?_)
                        refine wpIn_skip ?_
                        refine blk_n ?_
                        refine then_n ?_
                        refine x_seq ?_
                        refine wpIn_region_lit ?_
                        refine x_run tab hk (k := 2) (lv := []) (ks := [2, 3]) (e' := [(2, .int .i64 (-1)), (3, .bool false)]) rfl trivial fun a hk => ?_
                        refine wpListIn_nil ?_
                        refine then_n ?_
                        refine wpIn_ret ?_
                        obtain rfl := Option.some.inj H
                        exact x_retG hk (rs := [.tmp 2, .tmp 3]) (vs := [.int .i64 (-1), .bool false]) rfl ⟨rfl, rfl, trivial⟩ ⟨fun b_ => if b_ < w.heap.size then o b_ else (fun _ => 0) (o51 b_), rfl, hs.close0 o (fun _ => 0)⟩
                      · rw [b56] at hk H
                        replace H := bifT H
                        refine x_if hk (b := true) rfl ?_
                        refine (show Code.wpIn _ _ _ _ _ _ _ from ?_)
                        refine x_seq ?_
                        refine wpIn_region_lit ?_
                        refine x_run tab hk (k := 2) (lv := []) (ks := [2, 3]) (e' := [(2, .int .i64 6), (3, .bool false)]) rfl trivial fun a hk => ?_
                        refine wpListIn_nil ?_
                        refine then_n ?_
                        refine wpIn_ret ?_
                        refine blk_r ?_
                        refine then_r ?_
                        obtain rfl := Option.some.inj H
                        exact x_retG hk (rs := [.tmp 2, .tmp 3]) (vs := [.int .i64 6, .bool false]) rfl ⟨rfl, rfl, trivial⟩ ⟨fun b_ => if b_ < w.heap.size then o b_ else (fun _ => 0) (o51 b_), rfl, hs.close0 o (fun _ => 0)⟩
                    · rw [b55] at hk H
                      replace H := bifT H
                      refine x_if hk (b := true) rfl ?_
                      refine (show Code.wpIn _ _ _ _ _ _ _ from ?_)
                      refine x_seq ?_
                      refine wpIn_region_lit ?_
                      refine x_run tab hk (k := 2) (lv := []) (ks := [2, 3]) (e' := [(2, .int .i64 2), (3, .bool true)]) rfl trivial fun a hk => ?_
                      refine wpListIn_nil ?_
                      refine then_n ?_
                      refine wpIn_ret ?_
                      refine blk_r ?_
                      refine then_r ?_
                      obtain rfl := Option.some.inj H
                      exact x_retG hk (rs := [.tmp 2, .tmp 3]) (vs := [.int .i64 2, .bool true]) rfl ⟨rfl, rfl, trivial⟩ ⟨fun b_ => if b_ < w.heap.size then o b_ else (fun _ => 0) (o51 b_), rfl, hs.close0 o (fun _ => 0)⟩
                  · rw [b54] at hk H
                    replace H := bifT H
                    refine x_if hk (b := true) rfl ?_
                    refine (show Code.wpIn _ _ _ _ _ _ _ from ?_)
                    refine x_seq ?_
                    refine wpIn_region_lit ?_
                    refine x_run tab hk (k := 2) (lv := []) (ks := [2, 3]) (e' := [(2, .int .i64 3), (3, .bool false)]) rfl trivial fun a hk => ?_
                    refine wpListIn_nil ?_
                    refine then_n ?_
                    refine wpIn_ret ?_
                    refine blk_r ?_
                    refine then_r ?_
                    obtain rfl := Option.some.inj H
                    exact x_retG hk (rs := [.tmp 2, .tmp 3]) (vs := [.int .i64 3, .bool false]) rfl ⟨rfl, rfl, trivial⟩ ⟨fun b_ => if b_ < w.heap.size then o b_ else (fun _ => 0) (o51 b_), rfl, hs.close0 o (fun _ => 0)⟩
                refine x_seq ?_
                refine wpIn_region_lit ?_
                refine x_run tab hk (k := 2) (lv := []) (ks := [4, 25]) (e' := [(4, .string p0), (25, .bool (ByteArray.toList p0 == ByteArray.toList (⟨#[115, 101, 101]⟩ : ByteArray)))]) rfl trivial fun a hk => ?_
                refine wpListIn_nil ?_
                refine then_n ?_
                cases b57 : (ByteArray.toList p0 == ByteArray.toList (⟨#[115, 101, 101]⟩ : ByteArray))
                · rw [b57] at hk H
                  replace H := bifF H
                  refine x_if hk (b := false) rfl ?_
                  refine (show Code.wpIn _ _ _ _ _ _ _ from ?_)
                  refine wpIn_region_lit ?_
                  refine x_run tab hk (k := 2) (lv := []) (ks := [4, 25]) (e' := [(4, .string p0), (25, .bool (ByteArray.toList p0 == ByteArray.toList (⟨#[116, 117, 114, 110]⟩ : ByteArray)))]) rfl trivial fun a hk => ?_
                  refine wpListIn_nil ?_
                  refine then_n ?_
                  exact ⟨o40, (ByteArray.toList p0 == ByteArray.toList (⟨#[116, 117, 114, 110]⟩ : ByteArray)), (by exact Kn.pick (ks := [4, 25]) hk rfl), hs, H⟩
                · rw [b57] at hk H
                  replace H := bifT H
                  refine x_if hk (b := true) rfl ?_
                  refine (show Code.wpIn _ _ _ _ _ _ _ from ?_)
                  refine wpIn_skip ?_
                  refine then_n ?_
                  exact ⟨o40, true, (by exact Kn.pick (ks := [4, 25]) hk rfl), hs, H⟩
              · rw [b43] at hk H
                replace H := bifT H
                refine x_if hk (b := true) rfl ?_
                refine (show Code.wpIn _ _ _ _ _ _ _ from ?_)
                refine x_seq ?_
                refine wpIn_region_lit ?_
                refine x_run tab hk (k := 2) (lv := []) (ks := [2, 3]) (e' := [(2, .int .i64 2), (3, .bool false)]) rfl trivial fun a hk => ?_
                refine wpListIn_nil ?_
                refine then_n ?_
                refine wpIn_ret ?_
                refine blk_r ?_
                refine then_r ?_
                obtain rfl := Option.some.inj H
                exact x_retG hk (rs := [.tmp 2, .tmp 3]) (vs := [.int .i64 2, .bool false]) rfl ⟨rfl, rfl, trivial⟩ ⟨fun b_ => if b_ < w.heap.size then o b_ else (fun _ => 0) (o40 b_), rfl, hs.close0 o (fun _ => 0)⟩
            refine x_seq ?_
            refine wpIn_region_lit ?_
            refine x_run tab hk (k := 2) (lv := []) (ks := [4, 21]) (e' := [(4, .string p0), (21, .bool (ByteArray.toList p0 == ByteArray.toList (⟨#[115, 105, 122, 101]⟩ : ByteArray)))]) rfl trivial fun a hk => ?_
            refine wpListIn_nil ?_
            refine then_n ?_
            cases b58 : (ByteArray.toList p0 == ByteArray.toList (⟨#[115, 105, 122, 101]⟩ : ByteArray))
            · rw [b58] at hk H
              replace H := bifF H
              refine x_if hk (b := false) rfl ?_
              refine (show Code.wpIn _ _ _ _ _ _ _ from ?_)
              refine x_seq ?_
              refine wpIn_region_lit ?_
              refine x_run tab hk (k := 2) (lv := []) (ks := [4, 21]) (e' := [(4, .string p0), (21, .bool (ByteArray.toList p0 == ByteArray.toList (⟨#[119, 97, 110, 116]⟩ : ByteArray)))]) rfl trivial fun a hk => ?_
              refine wpListIn_nil ?_
              refine then_n ?_
              cases b59 : (ByteArray.toList p0 == ByteArray.toList (⟨#[119, 97, 110, 116]⟩ : ByteArray))
              · rw [b59] at hk H
                replace H := bifF H
                refine x_if hk (b := false) rfl ?_
                refine (show Code.wpIn _ _ _ _ _ _ _ from ?_)
                refine wpIn_region_lit ?_
                refine x_run tab hk (k := 2) (lv := []) (ks := [4, 21]) (e' := [(4, .string p0), (21, .bool (ByteArray.toList p0 == ByteArray.toList (⟨#[114, 101, 115, 116, 97, 114, 116]⟩ : ByteArray)))]) rfl trivial fun a hk => ?_
                refine wpListIn_nil ?_
                refine then_n ?_
                exact ⟨o28, (ByteArray.toList p0 == ByteArray.toList (⟨#[114, 101, 115, 116, 97, 114, 116]⟩ : ByteArray)), (by exact Kn.pick (ks := [4, 21]) hk rfl), hs, H⟩
              · rw [b59] at hk H
                replace H := bifT H
                refine x_if hk (b := true) rfl ?_
                refine (show Code.wpIn _ _ _ _ _ _ _ from ?_)
                refine wpIn_skip ?_
                refine then_n ?_
                exact ⟨o28, true, (by exact Kn.pick (ks := [4, 21]) hk rfl), hs, H⟩
            · rw [b58] at hk H
              replace H := bifT H
              refine x_if hk (b := true) rfl ?_
              refine (show Code.wpIn _ _ _ _ _ _ _ from ?_)
              refine wpIn_skip ?_
              refine then_n ?_
              exact ⟨o28, true, (by exact Kn.pick (ks := [4, 21]) hk rfl), hs, H⟩
          · rw [b31] at hk H
            replace H := bifT H
            refine x_if hk (b := true) rfl ?_
            refine (show Code.wpIn _ _ _ _ _ _ _ from ?_)
            refine x_seq ?_
            refine wpIn_region_lit ?_
            refine x_run tab hk (k := 2) (lv := []) (ks := [2, 3]) (e' := [(2, .int .i64 1), (3, .bool false)]) rfl trivial fun a hk => ?_
            refine wpListIn_nil ?_
            refine then_n ?_
            refine wpIn_ret ?_
            refine blk_r ?_
            refine then_r ?_
            obtain rfl := Option.some.inj H
            exact x_retG hk (rs := [.tmp 2, .tmp 3]) (vs := [.int .i64 1, .bool false]) rfl ⟨rfl, rfl, trivial⟩ ⟨fun b_ => if b_ < w.heap.size then o b_ else (fun _ => 0) (o28 b_), rfl, hs.close0 o (fun _ => 0)⟩
        refine x_seq ?_
        refine wpIn_region_lit ?_
        refine x_run tab hk (k := 2) (lv := []) (ks := [4, 14]) (e' := [(4, .string p0), (14, .bool (ByteArray.toList p0 == ByteArray.toList (⟨#[116, 105, 99, 107]⟩ : ByteArray)))]) rfl trivial fun a hk => ?_
        refine wpListIn_nil ?_
        refine then_n ?_
        cases b60 : (ByteArray.toList p0 == ByteArray.toList (⟨#[116, 105, 99, 107]⟩ : ByteArray))
        · rw [b60] at hk H
          replace H := bifF H
          refine x_if hk (b := false) rfl ?_
          refine (show Code.wpIn _ _ _ _ _ _ _ from ?_)
          refine x_seq ?_
          refine wpIn_region_lit ?_
          refine x_run tab hk (k := 2) (lv := []) (ks := [4, 14]) (e' := [(4, .string p0), (14, .bool (ByteArray.toList p0 == ByteArray.toList (⟨#[100, 101, 108, 105, 118, 101, 114]⟩ : ByteArray)))]) rfl trivial fun a hk => ?_
          refine wpListIn_nil ?_
          refine then_n ?_
          cases b61 : (ByteArray.toList p0 == ByteArray.toList (⟨#[100, 101, 108, 105, 118, 101, 114]⟩ : ByteArray))
          · rw [b61] at hk H
            replace H := bifF H
            refine x_if hk (b := false) rfl ?_
            refine (show Code.wpIn _ _ _ _ _ _ _ from ?_)
            refine x_seq ?_
            refine wpIn_region_lit ?_
            refine x_run tab hk (k := 2) (lv := []) (ks := [4, 14]) (e' := [(4, .string p0), (14, .bool (ByteArray.toList p0 == ByteArray.toList (⟨#[108, 111, 115, 101]⟩ : ByteArray)))]) rfl trivial fun a hk => ?_
            refine wpListIn_nil ?_
            refine then_n ?_
            cases b62 : (ByteArray.toList p0 == ByteArray.toList (⟨#[108, 111, 115, 101]⟩ : ByteArray))
            · rw [b62] at hk H
              replace H := bifF H
              refine x_if hk (b := false) rfl ?_
              refine (show Code.wpIn _ _ _ _ _ _ _ from ?_)
              refine x_seq ?_
              refine wpIn_region_lit ?_
              refine x_run tab hk (k := 2) (lv := []) (ks := [4, 14]) (e' := [(4, .string p0), (14, .bool (ByteArray.toList p0 == ByteArray.toList (⟨#[116, 119, 105, 110]⟩ : ByteArray)))]) rfl trivial fun a hk => ?_
              refine wpListIn_nil ?_
              refine then_n ?_
              cases b63 : (ByteArray.toList p0 == ByteArray.toList (⟨#[116, 119, 105, 110]⟩ : ByteArray))
              · rw [b63] at hk H
                replace H := bifF H
                refine x_if hk (b := false) rfl ?_
                refine (show Code.wpIn _ _ _ _ _ _ _ from ?_)
                refine x_seq ?_
                refine wpIn_region_lit ?_
                refine x_run tab hk (k := 2) (lv := []) (ks := [4, 14]) (e' := [(4, .string p0), (14, .bool (ByteArray.toList p0 == ByteArray.toList (⟨#[109, 111, 118, 101]⟩ : ByteArray)))]) rfl trivial fun a hk => ?_
                refine wpListIn_nil ?_
                refine then_n ?_
                cases b64 : (ByteArray.toList p0 == ByteArray.toList (⟨#[109, 111, 118, 101]⟩ : ByteArray))
                · rw [b64] at hk H
                  replace H := bifF H
                  refine x_if hk (b := false) rfl ?_
                  refine (show Code.wpIn _ _ _ _ _ _ _ from ?_)
                  refine wpIn_region_lit ?_
                  refine x_run tab hk (k := 2) (lv := []) (ks := [4, 14]) (e' := [(4, .string p0), (14, .bool (ByteArray.toList p0 == ByteArray.toList (⟨#[108, 105, 110, 101]⟩ : ByteArray)))]) rfl trivial fun a hk => ?_
                  refine wpListIn_nil ?_
                  refine then_n ?_
                  exact ⟨o12, (ByteArray.toList p0 == ByteArray.toList (⟨#[108, 105, 110, 101]⟩ : ByteArray)), (by exact Kn.pick (ks := [4, 14]) hk rfl), hs, H⟩
                · rw [b64] at hk H
                  replace H := bifT H
                  refine x_if hk (b := true) rfl ?_
                  refine (show Code.wpIn _ _ _ _ _ _ _ from ?_)
                  refine wpIn_skip ?_
                  refine then_n ?_
                  exact ⟨o12, true, (by exact Kn.pick (ks := [4, 14]) hk rfl), hs, H⟩
              · rw [b63] at hk H
                replace H := bifT H
                refine x_if hk (b := true) rfl ?_
                refine (show Code.wpIn _ _ _ _ _ _ _ from ?_)
                refine wpIn_skip ?_
                refine then_n ?_
                exact ⟨o12, true, (by exact Kn.pick (ks := [4, 14]) hk rfl), hs, H⟩
            · rw [b62] at hk H
              replace H := bifT H
              refine x_if hk (b := true) rfl ?_
              refine (show Code.wpIn _ _ _ _ _ _ _ from ?_)
              refine wpIn_skip ?_
              refine then_n ?_
              exact ⟨o12, true, (by exact Kn.pick (ks := [4, 14]) hk rfl), hs, H⟩
          · rw [b61] at hk H
            replace H := bifT H
            refine x_if hk (b := true) rfl ?_
            refine (show Code.wpIn _ _ _ _ _ _ _ from ?_)
            refine wpIn_skip ?_
            refine then_n ?_
            exact ⟨o12, true, (by exact Kn.pick (ks := [4, 14]) hk rfl), hs, H⟩
        · rw [b60] at hk H
          replace H := bifT H
          refine x_if hk (b := true) rfl ?_
          refine (show Code.wpIn _ _ _ _ _ _ _ from ?_)
          refine wpIn_skip ?_
          refine then_n ?_
          exact ⟨o12, true, (by exact Kn.pick (ks := [4, 14]) hk rfl), hs, H⟩
      · rw [b16] at hk H
        replace H := bifT H
        refine x_if hk (b := true) rfl ?_
        refine (show Code.wpIn _ _ _ _ _ _ _ from ?_)
        refine x_seq ?_
        refine wpIn_region_lit ?_
        refine x_run tab hk (k := 2) (lv := []) (ks := [2, 3]) (e' := [(2, .int .i64 0), (3, .bool true)]) rfl trivial fun a hk => ?_
        refine wpListIn_nil ?_
        refine then_n ?_
        refine wpIn_ret ?_
        refine blk_r ?_
        refine then_r ?_
        obtain rfl := Option.some.inj H
        exact x_retG hk (rs := [.tmp 2, .tmp 3]) (vs := [.int .i64 0, .bool true]) rfl ⟨rfl, rfl, trivial⟩ ⟨fun b_ => if b_ < w.heap.size then o b_ else (fun _ => 0) (o12 b_), rfl, hs.close0 o (fun _ => 0)⟩
    · rw [b15] at hk H
      replace H := bifT H
      refine x_if hk (b := true) rfl ?_
      refine (show Code.wpIn _ _ _ _ _ _ _ from ?_)
      refine x_seq ?_
      refine wpIn_region_lit ?_
      refine x_run tab hk (k := 2) (lv := []) (ks := [2, 3]) (e' := [(2, .int .i64 0), (3, .bool false)]) rfl trivial fun a hk => ?_
      refine wpListIn_nil ?_
      refine then_n ?_
      refine wpIn_ret ?_
      refine blk_r ?_
      refine then_r ?_
      obtain rfl := Option.some.inj H
      exact x_retG hk (rs := [.tmp 2, .tmp 3]) (vs := [.int .i64 0, .bool false]) rfl ⟨rfl, rfl, trivial⟩ ⟨fun b_ => if b_ < w.heap.size then o b_ else (fun _ => 0) (o12 b_), rfl, hs.close0 o (fun _ => 0)⟩
  refine x_seq ?_
  refine wpIn_region_lit ?_
  refine x_run tab hk (k := 2) (lv := []) (ks := [4, 5]) (e' := [(4, .string p0), (5, .bool (ByteArray.toList p0 == ByteArray.toList (⟨#[97, 108, 108]⟩ : ByteArray)))]) rfl trivial fun a hk => ?_
  refine wpListIn_nil ?_
  refine then_n ?_
  cases b65 : (ByteArray.toList p0 == ByteArray.toList (⟨#[97, 108, 108]⟩ : ByteArray))
  · rw [b65] at hk H
    replace H := bifF H
    refine x_if hk (b := false) rfl ?_
    refine (show Code.wpIn _ _ _ _ _ _ _ from ?_)
    refine x_seq ?_
    refine wpIn_region_lit ?_
    refine x_run tab hk (k := 2) (lv := []) (ks := [4, 5]) (e' := [(4, .string p0), (5, .bool (ByteArray.toList p0 == ByteArray.toList (⟨#[99, 108, 111, 99, 107]⟩ : ByteArray)))]) rfl trivial fun a hk => ?_
    refine wpListIn_nil ?_
    refine then_n ?_
    cases b66 : (ByteArray.toList p0 == ByteArray.toList (⟨#[99, 108, 111, 99, 107]⟩ : ByteArray))
    · rw [b66] at hk H
      replace H := bifF H
      refine x_if hk (b := false) rfl ?_
      refine (show Code.wpIn _ _ _ _ _ _ _ from ?_)
      refine x_seq ?_
      refine wpIn_region_lit ?_
      refine x_run tab hk (k := 2) (lv := []) (ks := [4, 5]) (e' := [(4, .string p0), (5, .bool (ByteArray.toList p0 == ByteArray.toList (⟨#[115, 116, 97, 116, 101]⟩ : ByteArray)))]) rfl trivial fun a hk => ?_
      refine wpListIn_nil ?_
      refine then_n ?_
      cases b67 : (ByteArray.toList p0 == ByteArray.toList (⟨#[115, 116, 97, 116, 101]⟩ : ByteArray))
      · rw [b67] at hk H
        replace H := bifF H
        refine x_if hk (b := false) rfl ?_
        refine (show Code.wpIn _ _ _ _ _ _ _ from ?_)
        refine x_seq ?_
        refine wpIn_region_lit ?_
        refine x_run tab hk (k := 2) (lv := []) (ks := [4, 5]) (e' := [(4, .string p0), (5, .bool (ByteArray.toList p0 == ByteArray.toList (⟨#[104, 97, 110, 100]⟩ : ByteArray)))]) rfl trivial fun a hk => ?_
        refine wpListIn_nil ?_
        refine then_n ?_
        cases b68 : (ByteArray.toList p0 == ByteArray.toList (⟨#[104, 97, 110, 100]⟩ : ByteArray))
        · rw [b68] at hk H
          replace H := bifF H
          refine x_if hk (b := false) rfl ?_
          refine (show Code.wpIn _ _ _ _ _ _ _ from ?_)
          refine x_seq ?_
          refine wpIn_region_lit ?_
          refine x_run tab hk (k := 2) (lv := []) (ks := [4, 5]) (e' := [(4, .string p0), (5, .bool (ByteArray.toList p0 == ByteArray.toList (⟨#[110, 101, 116]⟩ : ByteArray)))]) rfl trivial fun a hk => ?_
          refine wpListIn_nil ?_
          refine then_n ?_
          cases b69 : (ByteArray.toList p0 == ByteArray.toList (⟨#[110, 101, 116]⟩ : ByteArray))
          · rw [b69] at hk H
            replace H := bifF H
            refine x_if hk (b := false) rfl ?_
            refine (show Code.wpIn _ _ _ _ _ _ _ from ?_)
            refine wpIn_region_lit ?_
            refine x_run tab hk (k := 2) (lv := []) (ks := [4, 5]) (e' := [(4, .string p0), (5, .bool (ByteArray.toList p0 == ByteArray.toList (⟨#[115, 99, 114, 101, 101, 110]⟩ : ByteArray)))]) rfl trivial fun a hk => ?_
            refine wpListIn_nil ?_
            refine then_n ?_
            exact ⟨o0, (ByteArray.toList p0 == ByteArray.toList (⟨#[115, 99, 114, 101, 101, 110]⟩ : ByteArray)), (by exact Kn.pick (ks := [4, 5]) hk rfl), hs, H⟩
          · rw [b69] at hk H
            replace H := bifT H
            refine x_if hk (b := true) rfl ?_
            refine (show Code.wpIn _ _ _ _ _ _ _ from ?_)
            refine wpIn_skip ?_
            refine then_n ?_
            exact ⟨o0, true, (by exact Kn.pick (ks := [4, 5]) hk rfl), hs, H⟩
        · rw [b68] at hk H
          replace H := bifT H
          refine x_if hk (b := true) rfl ?_
          refine (show Code.wpIn _ _ _ _ _ _ _ from ?_)
          refine wpIn_skip ?_
          refine then_n ?_
          exact ⟨o0, true, (by exact Kn.pick (ks := [4, 5]) hk rfl), hs, H⟩
      · rw [b67] at hk H
        replace H := bifT H
        refine x_if hk (b := true) rfl ?_
        refine (show Code.wpIn _ _ _ _ _ _ _ from ?_)
        refine wpIn_skip ?_
        refine then_n ?_
        exact ⟨o0, true, (by exact Kn.pick (ks := [4, 5]) hk rfl), hs, H⟩
    · rw [b66] at hk H
      replace H := bifT H
      refine x_if hk (b := true) rfl ?_
      refine (show Code.wpIn _ _ _ _ _ _ _ from ?_)
      refine wpIn_skip ?_
      refine then_n ?_
      exact ⟨o0, true, (by exact Kn.pick (ks := [4, 5]) hk rfl), hs, H⟩
  · rw [b65] at hk H
    replace H := bifT H
    refine x_if hk (b := true) rfl ?_
    refine (show Code.wpIn _ _ _ _ _ _ _ from ?_)
    refine wpIn_skip ?_
    refine then_n ?_
    exact ⟨o0, true, (by exact Kn.pick (ks := [4, 5]) hk rfl), hs, H⟩

/-! tidewrack/tidewrackref27.text -/
set_option maxHeartbeats 4000000 in
set_option maxRecDepth 20000 in
theorem tidewrackref27_text_calls (K : Nat) (p0 : ByteArray) (w : World) (o : Nat → Nat)   (r : ByteArray) (H : tidewrackref27_text K p0 = some r) :
    Calls Tryd.prog 25 #[.string p0] w (Ret fun v_ w' => ∃ o' : Nat → Nat, v_ = .string r ∧ St [] w o w' o') := by
  refine x_enter (vs := [.string p0]) Tryd.func25 rfl rfl rfl fun a hk => ?_
  obtain ⟨o0, hs, h0⟩ := St.start w o
  clear h0
  rw [tidewrackref27_text] at H
  refine x_seq ?_
  refine wpIn_region_lit ?_
  refine x_run tab hk (k := 1) (lv := []) (ks := [0]) (e' := [(0, .string p0)]) rfl trivial fun a hk => ?_
  refine wpListIn_nil ?_
  refine then_n ?_
  refine x_seq ?_
  refine wpIn_region_lit ?_
  refine x_run tab hk (k := 1) (lv := []) (ks := [0, 3]) (e' := [(0, .string p0), (3, .string (⟨#[]⟩ : ByteArray))]) rfl trivial fun a hk => ?_
  refine wpListIn_nil ?_
  refine then_n ?_
  refine x_mid (fun a_ w_ => ∃ o202 : Nat → Nat, ∃ x203 : ByteArray, Kn 62 a_ [(3, .string x203)] ∧ St [] w (fun _ => 0) w_ o202 ∧ tidewrackref27_text_j1 x203 = some r) ?_ ?_
  rotate_left
  · rintro a w204 ⟨o202, x203, hk, hs, H⟩
    unfold tidewrackref27_text_j1 at H
    refine x_seq ?_
    refine wpIn_region_lit ?_
    refine x_run tab hk (k := 2) (lv := []) (ks := [2]) (e' := [(2, .string x203)]) rfl trivial fun a hk => ?_
    refine wpListIn_nil ?_
    refine then_n ?_
    refine wpIn_ret ?_
    obtain rfl := Option.some.inj H
    exact x_retG hk (rs := [.tmp 2]) (vs := [.string x203]) rfl ⟨rfl, trivial⟩ ⟨fun b_ => if b_ < w.heap.size then o b_ else (fun _ => 0) (o202 b_), rfl, hs.close0 o (fun _ => 0)⟩
  refine x_seq ?_
  refine wpIn_region_lit ?_
  refine x_run tab hk (k := 1) (lv := []) (ks := [0, 3, 4]) (e' := [(0, .string p0), (3, .string (⟨#[]⟩ : ByteArray)), (4, .int .i64 0)]) rfl trivial fun a hk => ?_
  refine wpListIn_nil ?_
  refine then_n ?_
  refine wpIn_block ?_
  refine x_loop (fun j_ a_ w_ => ∃ o269 : Nat → Nat, ∃ x270 : ByteArray, ∃ x271 : Int, Kn 62 a_ [(0, .string p0), (3, .string x270), (4, .int .i64 x271)] ∧ St [] w (fun _ => 0) w_ o269 ∧ tidewrackref27_text_l2 p0 j_ x270 x271 = some r) (k := K) ⟨o0, (⟨#[]⟩ : ByteArray), 0, (by exact Kn.pick (ks := [0, 3, 4]) hk rfl), hs, H⟩ (by rintro _ _ ⟨_, _, _, _, _, H_⟩; exact absurd (show (none : Option ByteArray) = some r from H_) (by simp)) ?_
  rintro k335 a w334 ⟨o269, x270, x271, hk, hs, H⟩
  rw [tidewrackref27_text_l2] at H
  obtain ⟨lp336, hlp337⟩ : ∃ lp_, lp_ = tidewrackref27_text_l2 p0 k335 := ⟨_, rfl⟩
  rw [← hlp337] at H
  refine x_seq ?_
  refine x_seq ?_
  refine wpIn_region_lit ?_
  refine x_run tab hk (k := 4) (lv := []) (ks := [0, 3, 4, 9]) (e' := [(0, .string p0), (3, .string x270), (4, .int .i64 x271), (9, .bool (decide (x271 < ((p0).size : Int))))]) rfl trivial fun a hk => ?_
  refine wpListIn_nil ?_
  refine then_n ?_
  cases b338 : (decide (x271 < ((p0).size : Int)))
  · rw [b338] at hk H
    replace H := bifF H
    refine x_if hk (b := false) rfl ?_
    refine (show Code.wpIn _ _ _ _ _ _ _ from ?_)
    refine wpIn_exit ?_
    refine then_x ?_
    refine then_x ?_
    refine blk_x ?_
    refine then_n ?_
    exact ⟨o269, x270, (by exact Kn.pick (ks := [3]) hk rfl), hs, H⟩
  · rw [b338] at hk H
    replace H := bifT H
    refine x_if hk (b := true) rfl ?_
    refine (show Code.wpIn _ _ _ _ _ _ _ from ?_)
    refine wpIn_skip ?_
    refine then_n ?_
    refine x_seq ?_
    refine wpIn_block ?_
    refine x_seq ?_
    refine wpIn_region_lit ?_
    obtain ⟨q339, H⟩ := ifS H
    refine x_run tab hk (k := 5) (lv := []) (ks := [0, 3, 4, 5]) (e' := [(0, .string p0), (3, .string x270), (4, .int .i64 x271), (5, .int .i64 (IntKind.wrap .i64 (bt p0 x271)))]) rfl ⟨q339, trivial⟩ fun a hk => ?_
    refine wpListIn_nil ?_
    refine then_n ?_
    refine x_mid (fun a_ w_ => ∃ o351 : Nat → Nat, ∃ x352 : Bool, Kn 62 a_ [(0, .string p0), (3, .string x270), (4, .int .i64 x271), (5, .int .i64 (IntKind.wrap .i64 (bt p0 x271))), (37, .bool x352)] ∧ St [] w (fun _ => 0) w_ o351 ∧ tidewrackref27_text_j3 p0 x270 x271 lp336 x352 = some r) ?_ ?_
    rotate_left
    · rintro a w353 ⟨o351, x352, hk, hs, H⟩
      unfold tidewrackref27_text_j3 at H
      cases b354 : x352
      · rw [b354] at hk H
        replace H := bifF H
        refine x_if hk (b := false) rfl ?_
        refine (show Code.wpIn _ _ _ _ _ _ _ from ?_)
        refine xd_begin (o := o351) (fun W_ => True) mixed rfl rfl fun w377 st378 => ?_
        replace hs := hs.loc0 st378 (by decide)
        refine xd_take tab hk (k := 11) (is := [0, 1, 2, 3, 4, 5]) (ls' := #[true, true, true, true, true, true, false, false, false, false, false, false, false, false, false, false, false]) (lv := []) (ks := [0, 3, 4, 5, 45, 47, 50]) (e' := [(0, .string p0), (3, .string x270), (4, .int .i64 x271), (5, .int .i64 (IntKind.wrap .i64 (bt p0 x271))), (45, .string x270), (47, .int .i64 (IntKind.wrap .i64 (Int.tdiv (IntKind.wrap .i64 (bt p0 x271)) 16))), (50, .int .i64 (IntKind.wrap .i64 ((IntKind.wrap .i64 (Int.tdiv (IntKind.wrap .i64 (bt p0 x271)) 16)) + 1)))]) (by kernel_rfl) rfl rfl (by kernel_rfl) (np_blk (np_then (np_then (np_blk (np_then np_body))))) trivial (fun W_ hS => ⟨(show (16 : Int) ≠ 0 from by decide), (show (16 : Int) ≠ 0 from by decide), trivial⟩) fun a hk => ?_
        obtain ⟨q379, H⟩ := ifS H
        obtain ⟨q380, H⟩ := ifS H
        obtain ⟨q381, H⟩ := ifS H
        obtain ⟨q382, H⟩ := ifS H
        obtain ⟨q383, H⟩ := ifS H
        refine xd_take tab hk (k := 5) (is := [6, 7, 8, 9, 10, 11]) (ls' := #[true, true, true, true, true, true, true, true, true, true, true, true, false, false, false, false, false]) (lv := []) (ks := [0, 3, 4, 45, 52, 54, 56]) (e' := [(0, .string p0), (3, .string x270), (4, .int .i64 x271), (45, .string x270), (52, .string ((⟨#[37]⟩ : ByteArray) ++ (ByteArray.extract (⟨#[48, 49, 50, 51, 52, 53, 54, 55, 56, 57, 65, 66, 67, 68, 69, 70]⟩ : ByteArray) (Int.toNat (IntKind.wrap .i64 (Int.tdiv (IntKind.wrap .i64 (bt p0 x271)) 16))) (Int.toNat (IntKind.wrap .i64 ((IntKind.wrap .i64 (Int.tdiv (IntKind.wrap .i64 (bt p0 x271)) 16)) + 1)))))), (54, .int .i64 (Int.tmod (IntKind.wrap .i64 (bt p0 x271)) 16)), (56, .int .i64 (Int.tmod (IntKind.wrap .i64 (bt p0 x271)) 16))]) (by kernel_rfl) rfl rfl (by kernel_rfl) (np_blk (np_then (np_then (np_blk (np_then np_body))))) trivial (fun W_ hS => ⟨q379, q380, q381, q382, q383, (show (16 : Int) ≠ 0 from by decide), (show (16 : Int) ≠ 0 from by decide), trivial⟩) fun a hk => ?_
        obtain ⟨q384, H⟩ := ifS H
        obtain ⟨q385, H⟩ := ifS H
        obtain ⟨q386, H⟩ := ifS H
        obtain ⟨q387, H⟩ := ifS H
        obtain ⟨q388, H⟩ := ifS H
        obtain ⟨q389, H⟩ := ifS H
        refine xd_take tab hk (k := 0) (is := [12, 13, 14, 15, 16]) (ls' := #[true, true, true, true, true, true, true, true, true, true, true, true, true, true, true, true, true]) (lv := []) (ks := [0, 3, 4]) (e' := [(0, .string p0), (3, .string (x270 ++ (((⟨#[37]⟩ : ByteArray) ++ (ByteArray.extract (⟨#[48, 49, 50, 51, 52, 53, 54, 55, 56, 57, 65, 66, 67, 68, 69, 70]⟩ : ByteArray) (Int.toNat (IntKind.wrap .i64 (Int.tdiv (IntKind.wrap .i64 (bt p0 x271)) 16))) (Int.toNat (IntKind.wrap .i64 ((IntKind.wrap .i64 (Int.tdiv (IntKind.wrap .i64 (bt p0 x271)) 16)) + 1))))) ++ (ByteArray.extract (⟨#[48, 49, 50, 51, 52, 53, 54, 55, 56, 57, 65, 66, 67, 68, 69, 70]⟩ : ByteArray) (Int.toNat (Int.tmod (IntKind.wrap .i64 (bt p0 x271)) 16)) (Int.toNat (IntKind.wrap .i64 ((Int.tmod (IntKind.wrap .i64 (bt p0 x271)) 16) + 1))))))), (4, .int .i64 x271)]) (by kernel_rfl) rfl rfl (by kernel_rfl) (np_blk (np_then (np_then (np_blk (np_then np_body))))) trivial (fun W_ hS => ⟨q384, q385, q386, q387, q388, q389, trivial⟩) fun a hk => ?_
        refine xd_done (by kernel_rfl) ?_
        refine blk_n ?_
        refine then_n ?_
        refine wpIn_region_lit ?_
        refine x_run tab hk (k := 3) (lv := []) (ks := [0, 3, 4]) (e' := [(0, .string p0), (3, .string (x270 ++ (((⟨#[37]⟩ : ByteArray) ++ (ByteArray.extract (⟨#[48, 49, 50, 51, 52, 53, 54, 55, 56, 57, 65, 66, 67, 68, 69, 70]⟩ : ByteArray) (Int.toNat (IntKind.wrap .i64 (Int.tdiv (IntKind.wrap .i64 (bt p0 x271)) 16))) (Int.toNat (IntKind.wrap .i64 ((IntKind.wrap .i64 (Int.tdiv (IntKind.wrap .i64 (bt p0 x271)) 16)) + 1))))) ++ (ByteArray.extract (⟨#[48, 49, 50, 51, 52, 53, 54, 55, 56, 57, 65, 66, 67, 68, 69, 70]⟩ : ByteArray) (Int.toNat (Int.tmod (IntKind.wrap .i64 (bt p0 x271)) 16)) (Int.toNat (IntKind.wrap .i64 ((Int.tmod (IntKind.wrap .i64 (bt p0 x271)) 16) + 1))))))), (4, .int .i64 (IntKind.wrap .i64 (x271 + 1)))]) rfl trivial fun a hk => ?_
        refine wpListIn_nil ?_
        refine then_n ?_
        exact ⟨k335, Nat.le_refl _, o351, (x270 ++ (((⟨#[37]⟩ : ByteArray) ++ (ByteArray.extract (⟨#[48, 49, 50, 51, 52, 53, 54, 55, 56, 57, 65, 66, 67, 68, 69, 70]⟩ : ByteArray) (Int.toNat (IntKind.wrap .i64 (Int.tdiv (IntKind.wrap .i64 (bt p0 x271)) 16))) (Int.toNat (IntKind.wrap .i64 ((IntKind.wrap .i64 (Int.tdiv (IntKind.wrap .i64 (bt p0 x271)) 16)) + 1))))) ++ (ByteArray.extract (⟨#[48, 49, 50, 51, 52, 53, 54, 55, 56, 57, 65, 66, 67, 68, 69, 70]⟩ : ByteArray) (Int.toNat (Int.tmod (IntKind.wrap .i64 (bt p0 x271)) 16)) (Int.toNat (IntKind.wrap .i64 ((Int.tmod (IntKind.wrap .i64 (bt p0 x271)) 16) + 1)))))), (IntKind.wrap .i64 (x271 + 1)), (by exact Kn.pick (ks := [0, 3, 4]) hk rfl), hs, (hlp337 ▸ H)⟩
      · rw [b354] at hk H
        replace H := bifT H
        refine x_if hk (b := true) rfl ?_
        refine (show Code.wpIn _ _ _ _ _ _ _ from ?_)
        refine wpIn_region_lit ?_
        obtain ⟨q390, H⟩ := ifS H
        obtain ⟨q391, H⟩ := ifS H
        obtain ⟨q392, H⟩ := ifS H
        obtain ⟨q393, H⟩ := ifS H
        obtain ⟨q394, H⟩ := ifS H
        refine x_run tab hk (k := 8) (lv := []) (ks := [0, 3, 4]) (e' := [(0, .string p0), (3, .string (x270 ++ (ByteArray.extract p0 (Int.toNat x271) (Int.toNat (IntKind.wrap .i64 (x271 + 1)))))), (4, .int .i64 x271)]) rfl ⟨q390, q391, q392, q393, q394, trivial⟩ fun a hk => ?_
        refine wpListIn_nil ?_
        refine blk_n ?_
        refine then_n ?_
        refine wpIn_region_lit ?_
        refine x_run tab hk (k := 3) (lv := []) (ks := [0, 3, 4]) (e' := [(0, .string p0), (3, .string (x270 ++ (ByteArray.extract p0 (Int.toNat x271) (Int.toNat (IntKind.wrap .i64 (x271 + 1)))))), (4, .int .i64 (IntKind.wrap .i64 (x271 + 1)))]) rfl trivial fun a hk => ?_
        refine wpListIn_nil ?_
        refine then_n ?_
        exact ⟨k335, Nat.le_refl _, o351, (x270 ++ (ByteArray.extract p0 (Int.toNat x271) (Int.toNat (IntKind.wrap .i64 (x271 + 1))))), (IntKind.wrap .i64 (x271 + 1)), (by exact Kn.pick (ks := [0, 3, 4]) hk rfl), hs, (hlp337 ▸ H)⟩
    refine wpIn_region_lit ?_
    refine x_run tab hk (k := 3) (lv := []) (ks := [0, 3, 4, 5, 18]) (e' := [(0, .string p0), (3, .string x270), (4, .int .i64 x271), (5, .int .i64 (IntKind.wrap .i64 (bt p0 x271))), (18, .bool (decide ((IntKind.wrap .i64 (bt p0 x271)) > (32 : Int))))]) rfl trivial fun a hk => ?_
    cases b395 : (decide ((IntKind.wrap .i64 (bt p0 x271)) > (32 : Int)))
    · rw [b395] at hk H
      replace H := bifF H
      refine x_run tab hk (k := 10) (lv := []) (ks := [0, 3, 4, 5, 26, 28]) (e' := [(0, .string p0), (3, .string x270), (4, .int .i64 x271), (5, .int .i64 (IntKind.wrap .i64 (bt p0 x271))), (26, .bool false), (28, undef)]) rfl trivial fun a hk => ?_
      refine x_run tab hk (k := 9) (lv := []) (ks := [0, 3, 4, 5, 37]) (e' := [(0, .string p0), (3, .string x270), (4, .int .i64 x271), (5, .int .i64 (IntKind.wrap .i64 (bt p0 x271))), (37, .bool false)]) rfl trivial fun a hk => ?_
      refine wpListIn_nil ?_
      refine then_n ?_
      exact ⟨o269, false, (by exact Kn.pick (ks := [0, 3, 4, 5, 37]) hk rfl), hs, H⟩
    · rw [b395] at hk H
      replace H := bifT H
      refine x_run tab hk (k := 4) (lv := []) (ks := [0, 3, 4, 5, 22]) (e' := [(0, .string p0), (3, .string x270), (4, .int .i64 x271), (5, .int .i64 (IntKind.wrap .i64 (bt p0 x271))), (22, .bool (decide ((IntKind.wrap .i64 (bt p0 x271)) < (127 : Int))))]) rfl trivial fun a hk => ?_
      cases b396 : (decide ((IntKind.wrap .i64 (bt p0 x271)) < (127 : Int)))
      · rw [b396] at hk H
        replace H := bifF H
        refine x_run tab hk (k := 10) (lv := []) (ks := [0, 3, 4, 5, 30, 32]) (e' := [(0, .string p0), (3, .string x270), (4, .int .i64 x271), (5, .int .i64 (IntKind.wrap .i64 (bt p0 x271))), (30, .bool false), (32, undef)]) rfl trivial fun a hk => ?_
        refine x_run tab hk (k := 5) (lv := []) (ks := [0, 3, 4, 5, 37]) (e' := [(0, .string p0), (3, .string x270), (4, .int .i64 x271), (5, .int .i64 (IntKind.wrap .i64 (bt p0 x271))), (37, .bool false)]) rfl trivial fun a hk => ?_
        refine wpListIn_nil ?_
        refine then_n ?_
        exact ⟨o269, false, (by exact Kn.pick (ks := [0, 3, 4, 5, 37]) hk rfl), hs, H⟩
      · rw [b396] at hk H
        replace H := bifT H
        refine x_run tab hk (k := 4) (lv := []) (ks := [0, 3, 4, 5, 26]) (e' := [(0, .string p0), (3, .string x270), (4, .int .i64 x271), (5, .int .i64 (IntKind.wrap .i64 (bt p0 x271))), (26, .bool ((IntKind.wrap .i64 (bt p0 x271)) != (37 : Int)))]) rfl trivial fun a hk => ?_
        cases b397 : ((IntKind.wrap .i64 (bt p0 x271)) != (37 : Int))
        · rw [b397] at hk H
          replace H := bifF H
          refine x_run tab hk (k := 10) (lv := []) (ks := [0, 3, 4, 5, 34, 36]) (e' := [(0, .string p0), (3, .string x270), (4, .int .i64 x271), (5, .int .i64 (IntKind.wrap .i64 (bt p0 x271))), (34, .bool false), (36, undef)]) rfl trivial fun a hk => ?_
          refine x_run tab hk (k := 1) (lv := []) (ks := [0, 3, 4, 5, 37]) (e' := [(0, .string p0), (3, .string x270), (4, .int .i64 x271), (5, .int .i64 (IntKind.wrap .i64 (bt p0 x271))), (37, .bool false)]) rfl trivial fun a hk => ?_
          refine wpListIn_nil ?_
          refine then_n ?_
          exact ⟨o269, false, (by exact Kn.pick (ks := [0, 3, 4, 5, 37]) hk rfl), hs, H⟩
        · rw [b397] at hk H
          replace H := bifT H
          refine x_run tab hk (k := 4) (lv := []) (ks := [0, 3, 4, 5, 30]) (e' := [(0, .string p0), (3, .string x270), (4, .int .i64 x271), (5, .int .i64 (IntKind.wrap .i64 (bt p0 x271))), (30, .bool ((IntKind.wrap .i64 (bt p0 x271)) != (40 : Int)))]) rfl trivial fun a hk => ?_
          cases b398 : ((IntKind.wrap .i64 (bt p0 x271)) != (40 : Int))
          · rw [b398] at hk H
            replace H := bifF H
            refine x_run tab hk (k := 7) (lv := []) (ks := [0, 3, 4, 5, 37]) (e' := [(0, .string p0), (3, .string x270), (4, .int .i64 x271), (5, .int .i64 (IntKind.wrap .i64 (bt p0 x271))), (37, .bool false)]) rfl trivial fun a hk => ?_
            refine wpListIn_nil ?_
            refine then_n ?_
            exact ⟨o269, false, (by exact Kn.pick (ks := [0, 3, 4, 5, 37]) hk rfl), hs, H⟩
          · rw [b398] at hk H
            replace H := bifT H
            refine x_run tab hk (k := 4) (lv := []) (ks := [0, 3, 4, 5, 34]) (e' := [(0, .string p0), (3, .string x270), (4, .int .i64 x271), (5, .int .i64 (IntKind.wrap .i64 (bt p0 x271))), (34, .bool ((IntKind.wrap .i64 (bt p0 x271)) != (41 : Int)))]) rfl trivial fun a hk => ?_
            cases b399 : ((IntKind.wrap .i64 (bt p0 x271)) != (41 : Int))
            · rw [b399] at hk H
              replace H := bifF H
              refine x_run tab hk (k := 3) (lv := []) (ks := [0, 3, 4, 5, 37]) (e' := [(0, .string p0), (3, .string x270), (4, .int .i64 x271), (5, .int .i64 (IntKind.wrap .i64 (bt p0 x271))), (37, .bool false)]) rfl trivial fun a hk => ?_
              refine wpListIn_nil ?_
              refine then_n ?_
              exact ⟨o269, false, (by exact Kn.pick (ks := [0, 3, 4, 5, 37]) hk rfl), hs, H⟩
            · rw [b399] at hk H
              replace H := bifT H
              refine x_run tab hk (k := 3) (lv := []) (ks := [0, 3, 4, 5, 37]) (e' := [(0, .string p0), (3, .string x270), (4, .int .i64 x271), (5, .int .i64 (IntKind.wrap .i64 (bt p0 x271))), (37, .bool ((IntKind.wrap .i64 (bt p0 x271)) != (44 : Int)))]) rfl trivial fun a hk => ?_
              refine wpListIn_nil ?_
              refine then_n ?_
              exact ⟨o269, ((IntKind.wrap .i64 (bt p0 x271)) != (44 : Int)), (by exact Kn.pick (ks := [0, 3, 4, 5, 37]) hk rfl), hs, H⟩

/-! tidewrack/tidewrackref27.Line -/
set_option maxHeartbeats 4000000 in
set_option maxRecDepth 20000 in
theorem tidewrackref27_Line_calls (K : Nat) (Ap0_0 : Option Addr) (cp0_0 : Nat) (p0 : T25) (w : World) (o : Nat → Nat) (Lg4 : Nat) (hg4 : Ft (GTab Tryd.prog "internal/strconv.uint64pow10" .u64 Lib.pow10Tab) w o Lg4) (Lp0_0 : Nat) (hp0_0 : Ft (RdC (encInt .i64) Ap0_0 p0.Nums) w o Lp0_0) (hcp0_0 : (p0.Nums).length ≤ cp0_0)  (r : ByteArray) (H : tidewrackref27_Line K p0 = some r) :
    Calls Tryd.prog 13 #[.agg #[.string p0.Word, .slice Ap0_0 (p0.Nums).length cp0_0, .string p0.Text]] w (Ret fun v_ w' => ∃ o' : Nat → Nat, v_ = .string r ∧ St [] w o w' o') := by
  refine x_enter (vs := [.agg #[.string p0.Word, .slice Ap0_0 (p0.Nums).length cp0_0, .string p0.Text]]) Tryd.func13 rfl rfl rfl fun a hk => ?_
  obtain ⟨o0, hs, h0⟩ := St.start w o
  have fg4 := h0 _ _ hg4
  have f900000 := h0 _ _ hp0_0
  clear h0
  rw [tidewrackref27_Line] at H
  refine x_seq ?_
  refine wpIn_region_lit ?_
  refine x_op hk rfl ?_
  refine op_box (o := o0) (t := 30) (v := .agg #[.string p0.Word, .slice Ap0_0 (p0.Nums).length cp0_0, .string p0.Text]) (cs := [.string p0.Word, .slice Ap0_0 (p0.Nums).length cp0_0, .string p0.Text]) hk rfl rfl 1 fun bx4 w1 o2 st3 f5 => ?_
  replace f900000 := f900000.st st3 (by decide)
  replace fg4 := fg4.st st3 (by decide)
  replace hs := hs.loc0 st3 (by decide)
  have hk := hk.put 1 (.pointer (some ⟨bx4, 0, none⟩)) rfl
  refine x_run tab hk (k := 1) (lv := []) (ks := [1]) (e' := [(1, .pointer (some ⟨bx4, 0, none⟩))]) rfl trivial fun a hk => ?_
  refine wpListIn_nil ?_
  refine then_n ?_
  refine x_seq ?_
  refine wpIn_region_lit ?_
  refine x_run tab hk (k := 2) (lv := [.string p0.Word]) (ks := [1, 10]) (e' := [(1, .pointer (some ⟨bx4, 0, none⟩)), (10, .string p0.Word)]) rfl ⟨(load1 tab rfl ((Bx.cell f5.now 0).trans rfl)), trivial⟩ fun a hk => ?_
  refine x_op hk rfl ?_
  obtain ⟨t9, hc10, H⟩ := bindS H
  refine op_call hk ent_16 (vs := [.string p0.Word]) rfl (tidewrackref27_Form_calls p0.Word _ o2    _ hc10) ?_
  rintro _ w11 ⟨o12, rfl, st13⟩
  replace f5 := f5.st st13 (by decide)
  replace f900000 := f900000.st st13 (by decide)
  replace fg4 := fg4.st st13 (by decide)
  replace hs := hs.loc0 st13 (by decide)
  have hk := hk.put 11 (.tuple #[.int .i64 t9.1, .bool t9.2]) rfl
  refine x_run tab hk (k := 5) (lv := []) (ks := [1, 3, 4]) (e' := [(1, .pointer (some ⟨bx4, 0, none⟩)), (3, .int .i64 t9.1), (4, .bool t9.2)]) rfl trivial fun a hk => ?_
  refine wpListIn_nil ?_
  refine then_n ?_
  refine x_mid (fun a_ w_ => ∃ o21 : Nat → Nat, Kn 75 a_ [(1, .pointer (some ⟨bx4, 0, none⟩)), (3, .int .i64 t9.1), (4, .bool t9.2)] ∧ St [] w (fun _ => 0) w_ o21 ∧ Ft (Bx bx4 30 [.string p0.Word, .slice Ap0_0 (p0.Nums).length cp0_0, .string p0.Text]) w_ o21 2 ∧ Ft (RdC (encInt .i64) Ap0_0 p0.Nums) w_ o21 0 ∧ Ft (GTab Tryd.prog "internal/strconv.uint64pow10" .u64 Lib.pow10Tab) w_ o21 0 ∧ tidewrackref27_Line_j1 K p0 t9 = some r) ?_ ?_
  rotate_left
  · rintro a w22 ⟨o21, hk, hs, f5, f900000, fg4, H⟩
    unfold tidewrackref27_Line_j1 at H
    refine x_seq ?_
    refine wpIn_region_lit ?_
    obtain ⟨q23, H⟩ := ifS H
    refine x_run tab hk (k := 4) (lv := [.string p0.Word]) (ks := [1, 3, 4, 5]) (e' := [(1, .pointer (some ⟨bx4, 0, none⟩)), (3, .int .i64 t9.1), (4, .bool t9.2), (5, .string (p0.Word ++ (⟨#[40]⟩ : ByteArray)))]) rfl ⟨(load1 tab rfl ((Bx.cell f5.now 0).trans rfl)), q23, trivial⟩ fun a hk => ?_
    refine wpListIn_nil ?_
    refine then_n ?_
    refine x_mid (fun a_ w_ => ∃ o136 : Nat → Nat, ∃ x137 : ByteArray, Kn 75 a_ [(1, .pointer (some ⟨bx4, 0, none⟩)), (3, .int .i64 t9.1), (4, .bool t9.2), (5, .string x137)] ∧ St [] w (fun _ => 0) w_ o136 ∧ Ft (Bx bx4 30 [.string p0.Word, .slice Ap0_0 (p0.Nums).length cp0_0, .string p0.Text]) w_ o136 8 ∧ Ft (RdC (encInt .i64) Ap0_0 p0.Nums) w_ o136 0 ∧ Ft (GTab Tryd.prog "internal/strconv.uint64pow10" .u64 Lib.pow10Tab) w_ o136 0 ∧ tidewrackref27_Line_j2 K p0 t9 x137 = some r) ?_ ?_
    rotate_left
    · rintro a w138 ⟨o136, x137, hk, hs, f5, f900000, fg4, H⟩
      unfold tidewrackref27_Line_j2 at H
      refine x_mid (fun a_ w_ => ∃ o158 : Nat → Nat, ∃ x159 : ByteArray, Kn 75 a_ [(1, .pointer (some ⟨bx4, 0, none⟩)), (5, .string x159)] ∧ St [] w (fun _ => 0) w_ o158 ∧ Ft (Bx bx4 30 [.string p0.Word, .slice Ap0_0 (p0.Nums).length cp0_0, .string p0.Text]) w_ o158 10 ∧ Ft (RdC (encInt .i64) Ap0_0 p0.Nums) w_ o158 0 ∧ Ft (GTab Tryd.prog "internal/strconv.uint64pow10" .u64 Lib.pow10Tab) w_ o158 0 ∧ tidewrackref27_Line_j3 K p0 x159 = some r) ?_ ?_
      rotate_left
      · rintro a w160 ⟨o158, x159, hk, hs, f5, f900000, fg4, H⟩
        unfold tidewrackref27_Line_j3 at H
        refine x_seq ?_
        refine wpIn_region_lit ?_
        refine x_run tab hk (k := 3) (lv := [.string p0.Text]) (ks := [65, 67]) (e' := [(65, .string x159), (67, .string p0.Text)]) rfl ⟨(load1 tab rfl ((Bx.cell f5.now 2).trans rfl)), trivial⟩ fun a hk => ?_
        refine x_op hk rfl ?_
        obtain ⟨t164, hc165, H⟩ := bindS H
        refine op_call hk ent_25 (vs := [.string p0.Text]) rfl (tidewrackref27_text_calls K p0.Text _ o158    _ hc165) ?_
        rintro _ w166 ⟨o167, rfl, st168⟩
        replace fg4 := fg4.st st168 (by decide)
        replace hs := hs.loc0 st168 (by decide)
        have hk := hk.put 68 (.string t164) rfl
        obtain ⟨q169, H⟩ := ifS H
        obtain ⟨q170, H⟩ := ifS H
        refine x_run tab hk (k := 3) (lv := []) (ks := [5]) (e' := [(5, .string (x159 ++ (t164 ++ (⟨#[41]⟩ : ByteArray))))]) rfl ⟨q169, q170, trivial⟩ fun a hk => ?_
        refine wpListIn_nil ?_
        refine then_n ?_
        refine x_seq ?_
        refine x_seq ?_
        refine wpIn_region_lit ?_
        refine x_run tab hk (k := 3) (lv := []) (ks := [5, 73]) (e' := [(5, .string (x159 ++ (t164 ++ (⟨#[41]⟩ : ByteArray)))), (73, .bool (decide ((((x159 ++ (t164 ++ (⟨#[41]⟩ : ByteArray)))).size : Int) > (4000 : Int))))]) rfl trivial fun a hk => ?_
        refine wpListIn_nil ?_
        refine then_n ?_
        cases b171 : (decide ((((x159 ++ (t164 ++ (⟨#[41]⟩ : ByteArray)))).size : Int) > (4000 : Int)))
        · rw [b171] at hk H
          replace H := bifF H
          refine x_if hk (b := false) rfl ?_
          refine (show Code.wpIn _ _ _ _ _ _ _ from ?_)
          refine wpIn_skip ?_
          refine then_n ?_
          refine x_seq ?_
          refine wpIn_region_lit ?_
          refine x_run tab hk (k := 2) (lv := []) (ks := [2]) (e' := [(2, .string (x159 ++ (t164 ++ (⟨#[41]⟩ : ByteArray))))]) rfl trivial fun a hk => ?_
          refine wpListIn_nil ?_
          refine then_n ?_
          refine wpIn_ret ?_
          obtain rfl := Option.some.inj H
          exact x_retG hk (rs := [.tmp 2]) (vs := [.string (x159 ++ (t164 ++ (⟨#[41]⟩ : ByteArray)))]) rfl ⟨rfl, trivial⟩ ⟨fun b_ => if b_ < w.heap.size then o b_ else (fun _ => 0) (o167 b_), rfl, hs.close0 o (fun _ => 0)⟩
        · rw [b171] at hk H
          replace H := bifT H
          refine x_if hk (b := true) rfl ?_
          refine (show Code.wpIn _ _ _ _ _ _ _ from ?_)
          refine x_seq ?_
          refine wpIn_region_lit ?_
          refine x_run tab hk (k := 1) (lv := []) (ks := [2]) (e' := [(2, .string (⟨#[]⟩ : ByteArray))]) rfl trivial fun a hk => ?_
          refine wpListIn_nil ?_
          refine then_n ?_
          refine wpIn_ret ?_
          refine then_r ?_
          obtain rfl := Option.some.inj H
          exact x_retG hk (rs := [.tmp 2]) (vs := [.string (⟨#[]⟩ : ByteArray)]) rfl ⟨rfl, trivial⟩ ⟨fun b_ => if b_ < w.heap.size then o b_ else (fun _ => 0) (o167 b_), rfl, hs.close0 o (fun _ => 0)⟩
      refine x_mid (fun a_ w_ => ∃ o179 : Nat → Nat, ∃ x180 : Bool, Kn 75 a_ [(1, .pointer (some ⟨bx4, 0, none⟩)), (5, .string x137), (62, .bool x180)] ∧ St [] w (fun _ => 0) w_ o179 ∧ Ft (Bx bx4 30 [.string p0.Word, .slice Ap0_0 (p0.Nums).length cp0_0, .string p0.Text]) w_ o179 11 ∧ Ft (RdC (encInt .i64) Ap0_0 p0.Nums) w_ o179 0 ∧ Ft (GTab Tryd.prog "internal/strconv.uint64pow10" .u64 Lib.pow10Tab) w_ o179 0 ∧ tidewrackref27_Line_j4 K p0 x137 x180 = some r) ?_ ?_
      rotate_left
      · rintro a w181 ⟨o179, x180, hk, hs, f5, f900000, fg4, H⟩
        unfold tidewrackref27_Line_j4 at H
        cases b182 : x180
        · rw [b182] at hk H
          replace H := bifF H
          refine x_if hk (b := false) rfl ?_
          refine (show Code.wpIn _ _ _ _ _ _ _ from ?_)
          refine wpIn_skip ?_
          refine then_n ?_
          exact ⟨(fun b_ => (fun l_ => if l_ = 11 then 10 else l_) (o179 b_)), x137, (by exact Kn.pick (ks := [1, 5]) hk rfl), (hs.relab0 (fun l_ => if l_ = 11 then 10 else l_) rfl), (f5.relab (fun l_ => if l_ = 11 then 10 else l_) rfl), (f900000.relab (fun l_ => if l_ = 11 then 10 else l_) rfl), (fg4.relab (fun l_ => if l_ = 11 then 10 else l_) rfl), H⟩
        · rw [b182] at hk H
          replace H := bifT H
          refine x_if hk (b := true) rfl ?_
          refine (show Code.wpIn _ _ _ _ _ _ _ from ?_)
          refine wpIn_region_lit ?_
          obtain ⟨q183, H⟩ := ifS H
          refine x_run tab hk (k := 3) (lv := []) (ks := [1, 5]) (e' := [(1, .pointer (some ⟨bx4, 0, none⟩)), (5, .string (x137 ++ (⟨#[44]⟩ : ByteArray)))]) rfl ⟨q183, trivial⟩ fun a hk => ?_
          refine wpListIn_nil ?_
          refine then_n ?_
          exact ⟨(fun b_ => (fun l_ => if l_ = 11 then 10 else l_) (o179 b_)), (x137 ++ (⟨#[44]⟩ : ByteArray)), (by exact Kn.pick (ks := [1, 5]) hk rfl), (hs.relab0 (fun l_ => if l_ = 11 then 10 else l_) rfl), (f5.relab (fun l_ => if l_ = 11 then 10 else l_) rfl), (f900000.relab (fun l_ => if l_ = 11 then 10 else l_) rfl), (fg4.relab (fun l_ => if l_ = 11 then 10 else l_) rfl), H⟩
      refine wpIn_region_lit ?_
      refine x_run tab hk (k := 2) (lv := []) (ks := [1, 3, 5, 59]) (e' := [(1, .pointer (some ⟨bx4, 0, none⟩)), (3, .int .i64 t9.1), (5, .string x137), (59, .bool t9.2)]) rfl trivial fun a hk => ?_
      cases b184 : t9.2
      · rw [b184] at hk H
        replace H := bifF H
        refine x_run tab hk (k := 3) (lv := []) (ks := [1, 5, 62]) (e' := [(1, .pointer (some ⟨bx4, 0, none⟩)), (5, .string x137), (62, .bool false)]) rfl trivial fun a hk => ?_
        refine wpListIn_nil ?_
        refine then_n ?_
        exact ⟨(fun b_ => (fun l_ => if l_ = 8 then 11 else l_) (o136 b_)), false, (by exact Kn.pick (ks := [1, 5, 62]) hk rfl), (hs.relab0 (fun l_ => if l_ = 8 then 11 else l_) rfl), (f5.relab (fun l_ => if l_ = 8 then 11 else l_) rfl), (f900000.relab (fun l_ => if l_ = 8 then 11 else l_) rfl), (fg4.relab (fun l_ => if l_ = 8 then 11 else l_) rfl), H⟩
      · rw [b184] at hk H
        replace H := bifT H
        refine x_run tab hk (k := 3) (lv := []) (ks := [1, 5, 62]) (e' := [(1, .pointer (some ⟨bx4, 0, none⟩)), (5, .string x137), (62, .bool (decide (t9.1 > (0 : Int))))]) rfl trivial fun a hk => ?_
        refine wpListIn_nil ?_
        refine then_n ?_
        exact ⟨(fun b_ => (fun l_ => if l_ = 8 then 11 else l_) (o136 b_)), (decide (t9.1 > (0 : Int))), (by exact Kn.pick (ks := [1, 5, 62]) hk rfl), (hs.relab0 (fun l_ => if l_ = 8 then 11 else l_) rfl), (f5.relab (fun l_ => if l_ = 8 then 11 else l_) rfl), (f900000.relab (fun l_ => if l_ = 8 then 11 else l_) rfl), (fg4.relab (fun l_ => if l_ = 8 then 11 else l_) rfl), H⟩
    refine x_seq ?_
    refine wpIn_region_lit ?_
    refine x_run tab hk (k := 4) (lv := [.slice Ap0_0 (p0.Nums).length cp0_0]) (ks := [1, 3, 4, 5, 36, 37, 38]) (e' := [(1, .pointer (some ⟨bx4, 0, none⟩)), (3, .int .i64 t9.1), (4, .bool t9.2), (5, .string (p0.Word ++ (⟨#[40]⟩ : ByteArray))), (36, .slice Ap0_0 (p0.Nums).length cp0_0), (37, .int .i64 ((p0.Nums).length : Int)), (38, .int .i64 0)]) rfl ⟨(load1 tab rfl ((Bx.cell f5.now 1).trans rfl)), trivial⟩ fun a hk => ?_
    refine wpListIn_nil ?_
    refine then_n ?_
    refine wpIn_block ?_
    refine x_loop (fun j_ a_ w_ => ∃ o220 : Nat → Nat, ∃ x221 : ByteArray, ∃ x222 : Int, Kn 75 a_ [(1, .pointer (some ⟨bx4, 0, none⟩)), (3, .int .i64 t9.1), (4, .bool t9.2), (5, .string x221), (36, .slice Ap0_0 (p0.Nums).length cp0_0), (37, .int .i64 ((p0.Nums).length : Int)), (38, .int .i64 x222)] ∧ St [] w (fun _ => 0) w_ o220 ∧ Ft (Bx bx4 30 [.string p0.Word, .slice Ap0_0 (p0.Nums).length cp0_0, .string p0.Text]) w_ o220 14 ∧ Ft (RdC (encInt .i64) Ap0_0 p0.Nums) w_ o220 0 ∧ Ft (GTab Tryd.prog "internal/strconv.uint64pow10" .u64 Lib.pow10Tab) w_ o220 0 ∧ tidewrackref27_Line_l5 K p0 t9 j_ x221 x222 = some r) (k := K) ⟨(fun b_ => (fun l_ => if l_ = 2 then 14 else l_) (o21 b_)), (p0.Word ++ (⟨#[40]⟩ : ByteArray)), 0, (by exact Kn.pick (ks := [1, 3, 4, 5, 36, 37, 38]) hk rfl), (hs.relab0 (fun l_ => if l_ = 2 then 14 else l_) rfl), (f5.relab (fun l_ => if l_ = 2 then 14 else l_) rfl), (f900000.relab (fun l_ => if l_ = 2 then 14 else l_) rfl), (fg4.relab (fun l_ => if l_ = 2 then 14 else l_) rfl), H⟩ (by rintro _ _ ⟨_, _, _, _, _, _, _, _, H_⟩; exact absurd (show (none : Option ByteArray) = some r from H_) (by simp)) ?_
    rintro k256 a w255 ⟨o220, x221, x222, hk, hs, f5, f900000, fg4, H⟩
    rw [tidewrackref27_Line_l5] at H
    obtain ⟨lp257, hlp258⟩ : ∃ lp_, lp_ = tidewrackref27_Line_l5 K p0 t9 k256 := ⟨_, rfl⟩
    rw [← hlp258] at H
    refine x_seq ?_
    refine wpIn_region_lit ?_
    refine x_run tab hk (k := 1) (lv := []) (ks := [1, 3, 4, 5, 36, 37, 38, 39]) (e' := [(1, .pointer (some ⟨bx4, 0, none⟩)), (3, .int .i64 t9.1), (4, .bool t9.2), (5, .string x221), (36, .slice Ap0_0 (p0.Nums).length cp0_0), (37, .int .i64 ((p0.Nums).length : Int)), (38, .int .i64 x222), (39, .bool (decide (x222 < ((p0.Nums).length : Int))))]) rfl trivial fun a hk => ?_
    refine wpListIn_nil ?_
    refine then_n ?_
    refine x_seq ?_
    cases b259 : (decide (x222 < ((p0.Nums).length : Int)))
    · rw [b259] at hk H
      replace H := bifF H
      refine x_if hk (b := false) rfl ?_
      refine (show Code.wpIn _ _ _ _ _ _ _ from ?_)
      refine wpIn_exit ?_
      refine then_x ?_
      refine then_x ?_
      refine blk_x ?_
      refine then_n ?_
      exact ⟨(fun b_ => (fun l_ => if l_ = 14 then 8 else l_) (o220 b_)), x221, (by exact Kn.pick (ks := [1, 3, 4, 5]) hk rfl), (hs.relab0 (fun l_ => if l_ = 14 then 8 else l_) rfl), (f5.relab (fun l_ => if l_ = 14 then 8 else l_) rfl), (f900000.relab (fun l_ => if l_ = 14 then 8 else l_) rfl), (fg4.relab (fun l_ => if l_ = 14 then 8 else l_) rfl), H⟩
    · rw [b259] at hk H
      replace H := bifT H
      refine x_if hk (b := true) rfl ?_
      refine (show Code.wpIn _ _ _ _ _ _ _ from ?_)
      refine wpIn_skip ?_
      refine then_n ?_
      refine x_seq ?_
      refine wpIn_block ?_
      refine x_seq ?_
      refine wpIn_region_lit ?_
      obtain ⟨q260, H⟩ := ifS H
      obtain ⟨ad261, hAad261⟩ := RdC.addr f900000.now q260
      have hk_C := hk
      have f5_C := f5
      have f900000_C := f900000
      have fg4_C := fg4
      subst hAad261
      have hk := hk_C
      clear hk_C
      have f5 := f5_C
      clear f5_C
      have f900000 := f900000_C
      clear f900000_C
      have fg4 := fg4_C
      clear fg4_C
      refine x_run tab hk (k := 5) (lv := [.int .i64 (rdD 0 p0.Nums x222)]) (ks := [1, 3, 4, 5, 6, 7, 36, 37, 38]) (e' := [(1, .pointer (some ⟨bx4, 0, none⟩)), (3, .int .i64 t9.1), (4, .bool t9.2), (5, .string x221), (6, .int .i64 x222), (7, .int .i64 (rdD 0 p0.Nums x222)), (36, .slice (some ad261) (p0.Nums).length cp0_0), (37, .int .i64 ((p0.Nums).length : Int)), (38, .int .i64 x222)]) rfl ⟨q260, (load1 tab rfl (RdC.at0 (E := (encInt .i64)) (d := 0) (i := x222) f900000.now q260 rfl)), trivial⟩ fun a hk => ?_
      refine wpListIn_nil ?_
      refine then_n ?_
      refine x_mid (fun a_ w_ => ∃ o267 : Nat → Nat, Kn 75 a_ [(1, .pointer (some ⟨bx4, 0, none⟩)), (3, .int .i64 t9.1), (4, .bool t9.2), (5, .string x221), (6, .int .i64 x222), (7, .int .i64 (rdD 0 p0.Nums x222)), (36, .slice (some ad261) (p0.Nums).length cp0_0), (37, .int .i64 ((p0.Nums).length : Int)), (38, .int .i64 x222)] ∧ St [] w (fun _ => 0) w_ o267 ∧ Ft (Bx bx4 30 [.string p0.Word, .slice (some ad261) (p0.Nums).length cp0_0, .string p0.Text]) w_ o267 16 ∧ Ft (RdC (encInt .i64) (some ad261) p0.Nums) w_ o267 0 ∧ Ft (GTab Tryd.prog "internal/strconv.uint64pow10" .u64 Lib.pow10Tab) w_ o267 0 ∧ tidewrackref27_Line_j6 p0 x221 x222 lp257 = some r) ?_ ?_
      rotate_left
      · rintro a w268 ⟨o267, hk, hs, f5, f900000, fg4, H⟩
        unfold tidewrackref27_Line_j6 at H
        refine x_seq ?_
        refine x_seq ?_
        refine wpIn_region_lit ?_
        refine x_run tab hk (k := 2) (lv := []) (ks := [1, 3, 4, 5, 7, 36, 37, 38, 50]) (e' := [(1, .pointer (some ⟨bx4, 0, none⟩)), (3, .int .i64 t9.1), (4, .bool t9.2), (5, .string x221), (7, .int .i64 (rdD 0 p0.Nums x222)), (36, .slice (some ad261) (p0.Nums).length cp0_0), (37, .int .i64 ((p0.Nums).length : Int)), (38, .int .i64 x222), (50, .bool (decide (x222 > (0 : Int))))]) rfl trivial fun a hk => ?_
        refine wpListIn_nil ?_
        refine then_n ?_
        cases b269 : (decide (x222 > (0 : Int)))
        · rw [b269] at hk H
          replace H := bifF H
          refine x_if hk (b := false) rfl ?_
          refine (show Code.wpIn _ _ _ _ _ _ _ from ?_)
          refine wpIn_skip ?_
          refine then_n ?_
          refine wpIn_region_lit ?_
          refine x_run tab hk (k := 2) (lv := []) (ks := [1, 3, 4, 36, 37, 38, 53, 54]) (e' := [(1, .pointer (some ⟨bx4, 0, none⟩)), (3, .int .i64 t9.1), (4, .bool t9.2), (36, .slice (some ad261) (p0.Nums).length cp0_0), (37, .int .i64 ((p0.Nums).length : Int)), (38, .int .i64 x222), (53, .string x221), (54, .int .i64 (rdD 0 p0.Nums x222))]) rfl trivial fun a hk => ?_
          refine x_op hk rfl ?_
          obtain ⟨t273, hc274, H⟩ := bindS H
          refine op_call hk ent_22 (vs := [.int .i64 (rdD 0 p0.Nums x222)]) rfl (strconv_Itoa_calls (rdD 0 p0.Nums x222) _ o267 0 fg4   _ hc274) ?_
          rintro _ w275 ⟨o276, rfl, st277⟩
          replace f5 := f5.st st277 (by decide)
          replace f900000 := f900000.st st277 (by decide)
          replace fg4 := fg4.st st277 (by decide)
          replace hs := hs.loc0 st277 (by decide)
          have hk := hk.put 55 (.string t273) rfl
          obtain ⟨q278, H⟩ := ifS H
          refine x_run tab hk (k := 2) (lv := []) (ks := [1, 3, 4, 5, 36, 37, 38]) (e' := [(1, .pointer (some ⟨bx4, 0, none⟩)), (3, .int .i64 t9.1), (4, .bool t9.2), (5, .string (x221 ++ t273)), (36, .slice (some ad261) (p0.Nums).length cp0_0), (37, .int .i64 ((p0.Nums).length : Int)), (38, .int .i64 x222)]) rfl ⟨q278, trivial⟩ fun a hk => ?_
          refine wpListIn_nil ?_
          refine blk_n ?_
          refine then_n ?_
          refine wpIn_region_lit ?_
          refine x_run tab hk (k := 2) (lv := []) (ks := [1, 3, 4, 5, 36, 37, 38]) (e' := [(1, .pointer (some ⟨bx4, 0, none⟩)), (3, .int .i64 t9.1), (4, .bool t9.2), (5, .string (x221 ++ t273)), (36, .slice (some ad261) (p0.Nums).length cp0_0), (37, .int .i64 ((p0.Nums).length : Int)), (38, .int .i64 (IntKind.wrap .i64 (x222 + 1)))]) rfl trivial fun a hk => ?_
          refine wpListIn_nil ?_
          refine then_n ?_
          exact ⟨k256, Nat.le_refl _, (fun b_ => (fun l_ => if l_ = 16 then 14 else l_) (o276 b_)), (x221 ++ t273), (IntKind.wrap .i64 (x222 + 1)), (by exact Kn.pick (ks := [1, 3, 4, 5, 36, 37, 38]) hk rfl), (hs.relab0 (fun l_ => if l_ = 16 then 14 else l_) rfl), (f5.relab (fun l_ => if l_ = 16 then 14 else l_) rfl), (f900000.relab (fun l_ => if l_ = 16 then 14 else l_) rfl), (fg4.relab (fun l_ => if l_ = 16 then 14 else l_) rfl), (hlp258 ▸ H)⟩
        · rw [b269] at hk H
          replace H := bifT H
          refine x_if hk (b := true) rfl ?_
          refine (show Code.wpIn _ _ _ _ _ _ _ from ?_)
          refine wpIn_region_lit ?_
          obtain ⟨q279, H⟩ := ifS H
          refine x_run tab hk (k := 3) (lv := []) (ks := [1, 3, 4, 5, 7, 36, 37, 38]) (e' := [(1, .pointer (some ⟨bx4, 0, none⟩)), (3, .int .i64 t9.1), (4, .bool t9.2), (5, .string (x221 ++ (⟨#[44]⟩ : ByteArray))), (7, .int .i64 (rdD 0 p0.Nums x222)), (36, .slice (some ad261) (p0.Nums).length cp0_0), (37, .int .i64 ((p0.Nums).length : Int)), (38, .int .i64 x222)]) rfl ⟨q279, trivial⟩ fun a hk => ?_
          refine wpListIn_nil ?_
          refine then_n ?_
          refine wpIn_region_lit ?_
          refine x_run tab hk (k := 2) (lv := []) (ks := [1, 3, 4, 36, 37, 38, 53, 54]) (e' := [(1, .pointer (some ⟨bx4, 0, none⟩)), (3, .int .i64 t9.1), (4, .bool t9.2), (36, .slice (some ad261) (p0.Nums).length cp0_0), (37, .int .i64 ((p0.Nums).length : Int)), (38, .int .i64 x222), (53, .string (x221 ++ (⟨#[44]⟩ : ByteArray))), (54, .int .i64 (rdD 0 p0.Nums x222))]) rfl trivial fun a hk => ?_
          refine x_op hk rfl ?_
          obtain ⟨t283, hc284, H⟩ := bindS H
          refine op_call hk ent_22 (vs := [.int .i64 (rdD 0 p0.Nums x222)]) rfl (strconv_Itoa_calls (rdD 0 p0.Nums x222) _ o267 0 fg4   _ hc284) ?_
          rintro _ w285 ⟨o286, rfl, st287⟩
          replace f5 := f5.st st287 (by decide)
          replace f900000 := f900000.st st287 (by decide)
          replace fg4 := fg4.st st287 (by decide)
          replace hs := hs.loc0 st287 (by decide)
          have hk := hk.put 55 (.string t283) rfl
          obtain ⟨q288, H⟩ := ifS H
          refine x_run tab hk (k := 2) (lv := []) (ks := [1, 3, 4, 5, 36, 37, 38]) (e' := [(1, .pointer (some ⟨bx4, 0, none⟩)), (3, .int .i64 t9.1), (4, .bool t9.2), (5, .string ((x221 ++ (⟨#[44]⟩ : ByteArray)) ++ t283)), (36, .slice (some ad261) (p0.Nums).length cp0_0), (37, .int .i64 ((p0.Nums).length : Int)), (38, .int .i64 x222)]) rfl ⟨q288, trivial⟩ fun a hk => ?_
          refine wpListIn_nil ?_
          refine blk_n ?_
          refine then_n ?_
          refine wpIn_region_lit ?_
          refine x_run tab hk (k := 2) (lv := []) (ks := [1, 3, 4, 5, 36, 37, 38]) (e' := [(1, .pointer (some ⟨bx4, 0, none⟩)), (3, .int .i64 t9.1), (4, .bool t9.2), (5, .string ((x221 ++ (⟨#[44]⟩ : ByteArray)) ++ t283)), (36, .slice (some ad261) (p0.Nums).length cp0_0), (37, .int .i64 ((p0.Nums).length : Int)), (38, .int .i64 (IntKind.wrap .i64 (x222 + 1)))]) rfl trivial fun a hk => ?_
          refine wpListIn_nil ?_
          refine then_n ?_
          exact ⟨k256, Nat.le_refl _, (fun b_ => (fun l_ => if l_ = 16 then 14 else l_) (o286 b_)), ((x221 ++ (⟨#[44]⟩ : ByteArray)) ++ t283), (IntKind.wrap .i64 (x222 + 1)), (by exact Kn.pick (ks := [1, 3, 4, 5, 36, 37, 38]) hk rfl), (hs.relab0 (fun l_ => if l_ = 16 then 14 else l_) rfl), (f5.relab (fun l_ => if l_ = 16 then 14 else l_) rfl), (f900000.relab (fun l_ => if l_ = 16 then 14 else l_) rfl), (fg4.relab (fun l_ => if l_ = 16 then 14 else l_) rfl), (hlp258 ▸ H)⟩
      refine x_seq ?_
      refine wpIn_region_lit ?_
      refine x_run tab hk (k := 3) (lv := []) (ks := [1, 3, 4, 5, 6, 7, 36, 37, 38, 45]) (e' := [(1, .pointer (some ⟨bx4, 0, none⟩)), (3, .int .i64 t9.1), (4, .bool t9.2), (5, .string x221), (6, .int .i64 x222), (7, .int .i64 (rdD 0 p0.Nums x222)), (36, .slice (some ad261) (p0.Nums).length cp0_0), (37, .int .i64 ((p0.Nums).length : Int)), (38, .int .i64 x222), (45, .bool (decide ((rdD 0 p0.Nums x222) < (0 : Int))))]) rfl trivial fun a hk => ?_
      cases b289 : (decide ((rdD 0 p0.Nums x222) < (0 : Int)))
      · rw [b289] at hk H
        replace H := bifF H
        refine x_run tab hk (k := 3) (lv := []) (ks := [1, 3, 4, 5, 6, 7, 36, 37, 38, 48]) (e' := [(1, .pointer (some ⟨bx4, 0, none⟩)), (3, .int .i64 t9.1), (4, .bool t9.2), (5, .string x221), (6, .int .i64 x222), (7, .int .i64 (rdD 0 p0.Nums x222)), (36, .slice (some ad261) (p0.Nums).length cp0_0), (37, .int .i64 ((p0.Nums).length : Int)), (38, .int .i64 x222), (48, .bool (decide ((rdD 0 p0.Nums x222) > (4294967295 : Int))))]) rfl trivial fun a hk => ?_
        refine wpListIn_nil ?_
        refine then_n ?_
        cases b290 : (decide ((rdD 0 p0.Nums x222) > (4294967295 : Int)))
        · rw [b290] at hk H
          replace H := bifF H
          refine x_if hk (b := false) rfl ?_
          refine (show Code.wpIn _ _ _ _ _ _ _ from ?_)
          refine wpIn_skip ?_
          refine then_n ?_
          exact ⟨(fun b_ => (fun l_ => if l_ = 14 then 16 else l_) (o220 b_)), (by exact Kn.pick (ks := [1, 3, 4, 5, 6, 7, 36, 37, 38]) hk rfl), (hs.relab0 (fun l_ => if l_ = 14 then 16 else l_) rfl), (f5.relab (fun l_ => if l_ = 14 then 16 else l_) rfl), (f900000.relab (fun l_ => if l_ = 14 then 16 else l_) rfl), (fg4.relab (fun l_ => if l_ = 14 then 16 else l_) rfl), H⟩
        · rw [b290] at hk H
          replace H := bifT H
          refine x_if hk (b := true) rfl ?_
          refine (show Code.wpIn _ _ _ _ _ _ _ from ?_)
          refine x_seq ?_
          refine wpIn_region_lit ?_
          refine x_run tab hk (k := 1) (lv := []) (ks := [2]) (e' := [(2, .string (⟨#[]⟩ : ByteArray))]) rfl trivial fun a hk => ?_
          refine wpListIn_nil ?_
          refine then_n ?_
          refine wpIn_ret ?_
          refine then_r ?_
          refine blk_r ?_
          refine then_r ?_
          refine then_r ?_
          refine blk_r ?_
          refine then_r ?_
          obtain rfl := Option.some.inj H
          exact x_retG hk (rs := [.tmp 2]) (vs := [.string (⟨#[]⟩ : ByteArray)]) rfl ⟨rfl, trivial⟩ ⟨fun b_ => if b_ < w.heap.size then o b_ else (fun _ => 0) (o220 b_), rfl, hs.close0 o (fun _ => 0)⟩
      · rw [b289] at hk H
        replace H := bifT H
        refine x_run tab hk (k := 3) (lv := []) (ks := [1, 3, 4, 5, 6, 7, 36, 37, 38, 48]) (e' := [(1, .pointer (some ⟨bx4, 0, none⟩)), (3, .int .i64 t9.1), (4, .bool t9.2), (5, .string x221), (6, .int .i64 x222), (7, .int .i64 (rdD 0 p0.Nums x222)), (36, .slice (some ad261) (p0.Nums).length cp0_0), (37, .int .i64 ((p0.Nums).length : Int)), (38, .int .i64 x222), (48, .bool true)]) rfl trivial fun a hk => ?_
        refine wpListIn_nil ?_
        refine then_n ?_
        refine x_if hk (b := true) rfl ?_
        refine (show Code.wpIn _ _ _ _ _ _ _ from ?_)
        refine x_seq ?_
        refine wpIn_region_lit ?_
        refine x_run tab hk (k := 1) (lv := []) (ks := [2]) (e' := [(2, .string (⟨#[]⟩ : ByteArray))]) rfl trivial fun a hk => ?_
        refine wpListIn_nil ?_
        refine then_n ?_
        refine wpIn_ret ?_
        refine then_r ?_
        refine blk_r ?_
        refine then_r ?_
        refine then_r ?_
        refine blk_r ?_
        refine then_r ?_
        obtain rfl := Option.some.inj H
        exact x_retG hk (rs := [.tmp 2]) (vs := [.string (⟨#[]⟩ : ByteArray)]) rfl ⟨rfl, trivial⟩ ⟨fun b_ => if b_ < w.heap.size then o b_ else (fun _ => 0) (o220 b_), rfl, hs.close0 o (fun _ => 0)⟩
  refine x_seq ?_
  refine wpIn_region_lit ?_
  refine x_run tab hk (k := 3) (lv := []) (ks := [1, 3, 4, 16]) (e' := [(1, .pointer (some ⟨bx4, 0, none⟩)), (3, .int .i64 t9.1), (4, .bool t9.2), (16, .bool (decide (t9.1 < (0 : Int))))]) rfl trivial fun a hk => ?_
  cases b291 : (decide (t9.1 < (0 : Int)))
  · rw [b291] at hk H
    replace H := bifF H
    refine x_run tab hk (k := 7) (lv := [.slice Ap0_0 (p0.Nums).length cp0_0]) (ks := [1, 3, 4, 23]) (e' := [(1, .pointer (some ⟨bx4, 0, none⟩)), (3, .int .i64 t9.1), (4, .bool t9.2), (23, .bool (((p0.Nums).length : Int) != t9.1))]) rfl ⟨(load1 tab rfl ((Bx.cell f5.now 1).trans rfl)), trivial⟩ fun a hk => ?_
    cases b292 : (((p0.Nums).length : Int) != t9.1)
    · rw [b292] at hk H
      replace H := bifF H
      refine x_run tab hk (k := 3) (lv := []) (ks := [1, 3, 4, 23, 26]) (e' := [(1, .pointer (some ⟨bx4, 0, none⟩)), (3, .int .i64 t9.1), (4, .bool t9.2), (23, .bool false), (26, .bool (!t9.2))]) rfl trivial fun a hk => ?_
      cases b293 : (!t9.2)
      · rw [b293] at hk H
        replace H := bifF H
        refine x_run tab hk (k := 5) (lv := []) (ks := [1, 3, 4, 31]) (e' := [(1, .pointer (some ⟨bx4, 0, none⟩)), (3, .int .i64 t9.1), (4, .bool t9.2), (31, .bool false)]) rfl trivial fun a hk => ?_
        refine wpListIn_nil ?_
        refine then_n ?_
        refine x_if hk (b := false) rfl ?_
        refine (show Code.wpIn _ _ _ _ _ _ _ from ?_)
        refine wpIn_skip ?_
        refine then_n ?_
        exact ⟨(fun b_ => (fun l_ => if l_ = 1 then 2 else l_) (o12 b_)), (by exact Kn.pick (ks := [1, 3, 4]) hk rfl), (hs.relab0 (fun l_ => if l_ = 1 then 2 else l_) rfl), (f5.relab (fun l_ => if l_ = 1 then 2 else l_) rfl), (f900000.relab (fun l_ => if l_ = 1 then 2 else l_) rfl), (fg4.relab (fun l_ => if l_ = 1 then 2 else l_) rfl), H⟩
      · rw [b293] at hk H
        replace H := bifT H
        refine x_run tab hk (k := 5) (lv := [.string p0.Text]) (ks := [1, 3, 4, 31]) (e' := [(1, .pointer (some ⟨bx4, 0, none⟩)), (3, .int .i64 t9.1), (4, .bool t9.2), (31, .bool (!(ByteArray.toList p0.Text == ByteArray.toList (⟨#[]⟩ : ByteArray))))]) rfl ⟨(load1 tab rfl ((Bx.cell f5.now 2).trans rfl)), trivial⟩ fun a hk => ?_
        refine wpListIn_nil ?_
        refine then_n ?_
        cases b294 : (!(ByteArray.toList p0.Text == ByteArray.toList (⟨#[]⟩ : ByteArray)))
        · rw [b294] at hk H
          replace H := bifF H
          refine x_if hk (b := false) rfl ?_
          refine (show Code.wpIn _ _ _ _ _ _ _ from ?_)
          refine wpIn_skip ?_
          refine then_n ?_
          exact ⟨(fun b_ => (fun l_ => if l_ = 1 then 2 else l_) (o12 b_)), (by exact Kn.pick (ks := [1, 3, 4]) hk rfl), (hs.relab0 (fun l_ => if l_ = 1 then 2 else l_) rfl), (f5.relab (fun l_ => if l_ = 1 then 2 else l_) rfl), (f900000.relab (fun l_ => if l_ = 1 then 2 else l_) rfl), (fg4.relab (fun l_ => if l_ = 1 then 2 else l_) rfl), H⟩
        · rw [b294] at hk H
          replace H := bifT H
          refine x_if hk (b := true) rfl ?_
          refine (show Code.wpIn _ _ _ _ _ _ _ from ?_)
          refine x_seq ?_
          refine wpIn_region_lit ?_
          refine x_run tab hk (k := 1) (lv := []) (ks := [2]) (e' := [(2, .string (⟨#[]⟩ : ByteArray))]) rfl trivial fun a hk => ?_
          refine wpListIn_nil ?_
          refine then_n ?_
          refine wpIn_ret ?_
          refine then_r ?_
          obtain rfl := Option.some.inj H
          exact x_retG hk (rs := [.tmp 2]) (vs := [.string (⟨#[]⟩ : ByteArray)]) rfl ⟨rfl, trivial⟩ ⟨fun b_ => if b_ < w.heap.size then o b_ else (fun _ => 0) (o12 b_), rfl, hs.close0 o (fun _ => 0)⟩
    · rw [b292] at hk H
      replace H := bifT H
      refine x_run tab hk (k := 8) (lv := []) (ks := [1, 3, 4, 31]) (e' := [(1, .pointer (some ⟨bx4, 0, none⟩)), (3, .int .i64 t9.1), (4, .bool t9.2), (31, .bool true)]) rfl trivial fun a hk => ?_
      refine wpListIn_nil ?_
      refine then_n ?_
      refine x_if hk (b := true) rfl ?_
      refine (show Code.wpIn _ _ _ _ _ _ _ from ?_)
      refine x_seq ?_
      refine wpIn_region_lit ?_
      refine x_run tab hk (k := 1) (lv := []) (ks := [2]) (e' := [(2, .string (⟨#[]⟩ : ByteArray))]) rfl trivial fun a hk => ?_
      refine wpListIn_nil ?_
      refine then_n ?_
      refine wpIn_ret ?_
      refine then_r ?_
      obtain rfl := Option.some.inj H
      exact x_retG hk (rs := [.tmp 2]) (vs := [.string (⟨#[]⟩ : ByteArray)]) rfl ⟨rfl, trivial⟩ ⟨fun b_ => if b_ < w.heap.size then o b_ else (fun _ => 0) (o12 b_), rfl, hs.close0 o (fun _ => 0)⟩
  · rw [b291] at hk H
    replace H := bifT H
    refine x_run tab hk (k := 14) (lv := []) (ks := [1, 3, 4, 23, 30]) (e' := [(1, .pointer (some ⟨bx4, 0, none⟩)), (3, .int .i64 t9.1), (4, .bool t9.2), (23, .bool true), (30, undef)]) rfl trivial fun a hk => ?_
    refine x_run tab hk (k := 1) (lv := []) (ks := [1, 3, 4, 31]) (e' := [(1, .pointer (some ⟨bx4, 0, none⟩)), (3, .int .i64 t9.1), (4, .bool t9.2), (31, .bool true)]) rfl trivial fun a hk => ?_
    refine wpListIn_nil ?_
    refine then_n ?_
    refine x_if hk (b := true) rfl ?_
    refine (show Code.wpIn _ _ _ _ _ _ _ from ?_)
    refine x_seq ?_
    refine wpIn_region_lit ?_
    refine x_run tab hk (k := 1) (lv := []) (ks := [2]) (e' := [(2, .string (⟨#[]⟩ : ByteArray))]) rfl trivial fun a hk => ?_
    refine wpListIn_nil ?_
    refine then_n ?_
    refine wpIn_ret ?_
    refine then_r ?_
    obtain rfl := Option.some.inj H
    exact x_retG hk (rs := [.tmp 2]) (vs := [.string (⟨#[]⟩ : ByteArray)]) rfl ⟨rfl, trivial⟩ ⟨fun b_ => if b_ < w.heap.size then o b_ else (fun _ => 0) (o12 b_), rfl, hs.close0 o (fun _ => 0)⟩

/-! tidewrack/tidewrackref27.Parse -/
set_option maxHeartbeats 4000000 in
set_option maxRecDepth 20000 in
theorem tidewrackref27_Parse_calls (K : Nat) (p0 : ByteArray) (w : World) (o : Nat → Nat) (Lg4 : Nat) (hg4 : Ft (GTab Tryd.prog "internal/strconv.uint64pow10" .u64 Lib.pow10Tab) w o Lg4)   (R0 : Nat) (r : T25 × Int) (H : tidewrackref27_Parse K p0 = some r) :
    Calls Tryd.prog 10 #[.string p0] w (Ret fun v_ w' => ∃ o' : Nat → Nat, ∃ A0 : Option Addr, ∃ c0 : Nat, v_ = .tuple #[.agg #[.string r.1.Word, .slice A0 (r.1.Nums).length c0, .string r.1.Text], .int .i64 r.2] ∧ St [] w o w' o' ∧ Ft (Own (encInt .i64) 3 (.slice A0 (r.1.Nums).length c0) r.1.Nums) w' o' R0 ∧ (r.1.Nums).length ≤ c0) := by
  refine x_enter (vs := [.string p0]) Tryd.func10 rfl rfl rfl fun a hk => ?_
  obtain ⟨o0, hs, h0⟩ := St.start w o
  have fg4 := h0 _ _ hg4
  clear h0
  rw [tidewrackref27_Parse] at H
  refine x_seq ?_
  refine wpIn_region_lit ?_
  refine x_op hk rfl ?_
  refine op_alloc (o := o0) tab (t := 30) (cs := [.string (⟨#[]⟩ : ByteArray), .slice none 0 0, .string (⟨#[]⟩ : ByteArray)]) rfl rfl 1 fun bx4 w1 o2 st3 f5 => ?_
  replace fg4 := fg4.st st3 (by decide)
  replace hs := hs.loc0 st3 (by decide)
  have hk := hk.put 2 (.pointer (some ⟨bx4, 0, none⟩)) rfl
  refine x_run tab hk (k := 1) (lv := []) (ks := [0, 2]) (e' := [(0, .string p0), (2, .pointer (some ⟨bx4, 0, none⟩))]) rfl trivial fun a hk => ?_
  refine wpListIn_nil ?_
  refine then_n ?_
  refine x_seq ?_
  refine x_seq ?_
  refine wpIn_region_lit ?_
  refine x_run tab hk (k := 3) (lv := []) (ks := [0, 2, 17]) (e' := [(0, .string p0), (2, .pointer (some ⟨bx4, 0, none⟩)), (17, .bool (decide (((p0).size : Int) > (4000 : Int))))]) rfl trivial fun a hk => ?_
  refine wpListIn_nil ?_
  refine then_n ?_
  cases b6 : (decide (((p0).size : Int) > (4000 : Int)))
  · rw [b6] at hk H
    replace H := bifF H
    refine x_if hk (b := false) rfl ?_
    refine (show Code.wpIn _ _ _ _ _ _ _ from ?_)
    refine wpIn_skip ?_
    refine then_n ?_
    refine x_seq ?_
    refine wpIn_region_lit ?_
    refine x_run tab hk (k := 1) (lv := []) (ks := [0, 2, 4]) (e' := [(0, .string p0), (2, .pointer (some ⟨bx4, 0, none⟩)), (4, .int .i64 0)]) rfl trivial fun a hk => ?_
    refine wpListIn_nil ?_
    refine then_n ?_
    refine x_mid (fun a_ w_ => ∃ o31 : Nat → Nat, ∃ x32 : Int, Kn 184 a_ [(0, .string p0), (2, .pointer (some ⟨bx4, 0, none⟩)), (4, .int .i64 x32)] ∧ St [] w (fun _ => 0) w_ o31 ∧ Ft (Bx bx4 30 [.string (⟨#[]⟩ : ByteArray), .slice none 0 0, .string (⟨#[]⟩ : ByteArray)]) w_ o31 4 ∧ Ft (GTab Tryd.prog "internal/strconv.uint64pow10" .u64 Lib.pow10Tab) w_ o31 0 ∧ tidewrackref27_Parse_j1 K p0 x32 = some r) ?_ ?_
    rotate_left
    · rintro a w33 ⟨o31, x32, hk, hs, f5, fg4, H⟩
      unfold tidewrackref27_Parse_j1 at H
      refine x_seq ?_
      refine wpIn_region_lit ?_
      obtain ⟨q34, H⟩ := ifS H
      obtain ⟨q35, H⟩ := ifS H
      refine x_run tab hk (k := 4) (lv := []) (ks := [0, 2, 4, 34]) (e' := [(0, .string p0), (2, .pointer (some ⟨bx4, 0, none⟩)), (4, .int .i64 x32), (34, .agg #[.string (ByteArray.extract p0 0 (Int.toNat x32)), .slice none 0 0, .string (⟨#[]⟩ : ByteArray)])]) rfl ⟨q34, q35, trivial⟩ fun a hk => ?_
      refine x_op hk rfl ?_
      refine op_alloc (o := o31) tab (t := 30) (cs := [.string (⟨#[]⟩ : ByteArray), .slice none 0 0, .string (⟨#[]⟩ : ByteArray)]) rfl rfl 5 fun bx39 w36 o37 st38 f40 => ?_
      replace f5 := f5.st st38 (by decide)
      replace fg4 := fg4.st st38 (by decide)
      replace hs := hs.loc0 st38 (by decide)
      have hk := hk.put 5 (.pointer (some ⟨bx39, 0, none⟩)) rfl
      refine x_op hk rfl ?_
      refine op_store tab hk (t := 30) (v := .agg #[.string (ByteArray.extract p0 0 (Int.toNat x32)), .slice none 0 0, .string (⟨#[]⟩ : ByteArray)]) (b := bx39) (k := 0) (cs' := [.string (ByteArray.extract p0 0 (Int.toNat x32)), .slice none 0 0, .string (⟨#[]⟩ : ByteArray)]) rfl rfl rfl rfl rfl rfl f40 rfl rfl fun w41 o42 st43 f40_ => ?_
      replace f5 := f5.st st43 (by decide)
      replace fg4 := fg4.st st43 (by decide)
      replace hs := hs.loc0 st43 (by decide)
      replace f40 := f40_
      refine wpListIn_nil ?_
      refine then_n ?_
      refine x_seq ?_
      refine wpIn_region_lit ?_
      refine x_run tab hk (k := 2) (lv := [.string (ByteArray.extract p0 0 (Int.toNat x32))]) (ks := [0, 2, 4, 5, 37]) (e' := [(0, .string p0), (2, .pointer (some ⟨bx4, 0, none⟩)), (4, .int .i64 x32), (5, .pointer (some ⟨bx39, 0, none⟩)), (37, .string (ByteArray.extract p0 0 (Int.toNat x32)))]) rfl ⟨(load1 tab rfl ((Bx.cell f40.now 0).trans rfl)), trivial⟩ fun a hk => ?_
      refine x_op hk rfl ?_
      obtain ⟨t47, hc48, H⟩ := bindS H
      refine op_call hk ent_16 (vs := [.string (ByteArray.extract p0 0 (Int.toNat x32))]) rfl (tidewrackref27_Form_calls (ByteArray.extract p0 0 (Int.toNat x32)) _ o42    _ hc48) ?_
      rintro _ w49 ⟨o50, rfl, st51⟩
      replace f40 := f40.st st51 (by decide)
      replace f5 := f5.st st51 (by decide)
      replace fg4 := fg4.st st51 (by decide)
      replace hs := hs.loc0 st51 (by decide)
      have hk := hk.put 38 (.tuple #[.int .i64 t47.1, .bool t47.2]) rfl
      refine x_run tab hk (k := 5) (lv := []) (ks := [0, 2, 4, 5, 6, 7]) (e' := [(0, .string p0), (2, .pointer (some ⟨bx4, 0, none⟩)), (4, .int .i64 x32), (5, .pointer (some ⟨bx39, 0, none⟩)), (6, .int .i64 t47.1), (7, .bool t47.2)]) rfl trivial fun a hk => ?_
      refine wpListIn_nil ?_
      refine then_n ?_
      refine x_mid (fun a_ w_ => ∃ o70 : Nat → Nat, Kn 184 a_ [(0, .string p0), (2, .pointer (some ⟨bx4, 0, none⟩)), (4, .int .i64 x32), (5, .pointer (some ⟨bx39, 0, none⟩)), (6, .int .i64 t47.1), (7, .bool t47.2)] ∧ St [] w (fun _ => 0) w_ o70 ∧ Ft (Bx bx39 30 [.string (ByteArray.extract p0 0 (Int.toNat x32)), .slice none 0 0, .string (⟨#[]⟩ : ByteArray)]) w_ o70 9 ∧ Ft (Bx bx4 30 [.string (⟨#[]⟩ : ByteArray), .slice none 0 0, .string (⟨#[]⟩ : ByteArray)]) w_ o70 8 ∧ Ft (GTab Tryd.prog "internal/strconv.uint64pow10" .u64 Lib.pow10Tab) w_ o70 0 ∧ tidewrackref27_Parse_j2 K p0 x32 t47 = some r) ?_ ?_
      rotate_left
      · rintro a w71 ⟨o70, hk, hs, f40, f5, fg4, H⟩
        unfold tidewrackref27_Parse_j2 at H
        refine x_seq ?_
        refine wpIn_region_lit ?_
        refine x_run tab hk (k := 3) (lv := []) (ks := [0, 2, 4, 5, 6, 7]) (e' := [(0, .string p0), (2, .pointer (some ⟨bx4, 0, none⟩)), (4, .int .i64 (IntKind.wrap .i64 (x32 + 1))), (5, .pointer (some ⟨bx39, 0, none⟩)), (6, .int .i64 t47.1), (7, .bool t47.2)]) rfl trivial fun a hk => ?_
        refine wpListIn_nil ?_
        refine then_n ?_
        refine x_mid (fun a_ w_ => ∃ o1106 : Nat → Nat, ∃ x1107 : Int, ∃ A1108 : Option Addr, ∃ c1109 : Nat, ∃ l1110 : List Int, Kn 184 a_ [(0, .string p0), (2, .pointer (some ⟨bx4, 0, none⟩)), (4, .int .i64 x1107), (5, .pointer (some ⟨bx39, 0, none⟩))] ∧ St [] w (fun _ => 0) w_ o1106 ∧ Ft (Own (encInt .i64) 3 (.slice A1108 (l1110).length c1109) l1110) w_ o1106 228 ∧ Ft (Bx bx39 30 [.string (ByteArray.extract p0 0 (Int.toNat x32)), .slice A1108 (l1110).length c1109, .string (⟨#[]⟩ : ByteArray)]) w_ o1106 229 ∧ Ft (Bx bx4 30 [.string (⟨#[]⟩ : ByteArray), .slice none 0 0, .string (⟨#[]⟩ : ByteArray)]) w_ o1106 227 ∧ Ft (GTab Tryd.prog "internal/strconv.uint64pow10" .u64 Lib.pow10Tab) w_ o1106 0 ∧ (l1110).length ≤ c1109 ∧ tidewrackref27_Parse_j3 K p0 x32 x1107 l1110 = some r) ?_ ?_
        rotate_left
        · rintro a w1113 ⟨o1106, x1107, A1108, c1109, l1110, hk, hs, f1111, f40, f5, fg4, hc1112, H⟩
          unfold tidewrackref27_Parse_j3 at H
          refine x_seq ?_
          refine wpIn_region_lit ?_
          refine x_op hk rfl ?_
          refine op_slice (o := o1106) tab hk (vs := []) (cs := []) rfl rfl rfl rfl rfl rfl rfl rfl rfl 230 fun bx1117 w1114 o1115 st1116 f1118 => ?_
          replace f1111 := f1111.st st1116 (by decide)
          replace f40 := f40.st st1116 (by decide)
          replace f5 := f5.st st1116 (by decide)
          replace fg4 := fg4.st st1116 (by decide)
          replace hs := hs.loc0 st1116 (by decide)
          have f1119 : Ft (Own (encInt .u8) 5 (.slice (some ⟨bx1117, 0, none⟩) (([] : List Int)).length 0) ([] : List Int)) w1114 o1115 230 := f1118.imp fun _ h_ => Own.of_box h_ rfl (by simp)
          have hk := hk.put 104 (.slice (some ⟨bx1117, 0, none⟩) (([] : List Int)).length 0) rfl
          refine x_run tab hk (k := 1) (lv := []) (ks := [0, 2, 4, 5, 11]) (e' := [(0, .string p0), (2, .pointer (some ⟨bx4, 0, none⟩)), (4, .int .i64 x1107), (5, .pointer (some ⟨bx39, 0, none⟩)), (11, .slice (some ⟨bx1117, 0, none⟩) (([] : List Int)).length 0)]) rfl trivial fun a hk => ?_
          refine wpListIn_nil ?_
          refine then_n ?_
          refine x_mid (fun a_ w_ => ∃ o2797 : Nat → Nat, ∃ A2798 : Option Addr, ∃ c2799 : Nat, ∃ l2800 : List Int, Kn 184 a_ [(0, .string p0), (2, .pointer (some ⟨bx4, 0, none⟩)), (5, .pointer (some ⟨bx39, 0, none⟩)), (11, .slice A2798 (l2800).length c2799)] ∧ St [] w (fun _ => 0) w_ o2797 ∧ Ft (Own (encInt .i64) 3 (.slice A1108 (l1110).length c1109) l1110) w_ o2797 825 ∧ Ft (Own (encInt .u8) 5 (.slice A2798 (l2800).length c2799) l2800) w_ o2797 827 ∧ Ft (Bx bx39 30 [.string (ByteArray.extract p0 0 (Int.toNat x32)), .slice A1108 (l1110).length c1109, .string (⟨#[]⟩ : ByteArray)]) w_ o2797 826 ∧ Ft (Bx bx4 30 [.string (⟨#[]⟩ : ByteArray), .slice none 0 0, .string (⟨#[]⟩ : ByteArray)]) w_ o2797 824 ∧ Ft (GTab Tryd.prog "internal/strconv.uint64pow10" .u64 Lib.pow10Tab) w_ o2797 0 ∧ (l2800).length ≤ c2799 ∧ tidewrackref27_Parse_j4 K p0 x32 l1110 l2800 = some r) ?_ ?_
          rotate_left
          · rintro a w2803 ⟨o2797, A2798, c2799, l2800, hk, hs, f1111, f2801, f40, f5, fg4, hc2802, H⟩
            unfold tidewrackref27_Parse_j4 at H
            refine x_seq ?_
            refine wpIn_region_lit ?_
            refine x_run tab hk (k := 3) (lv := [.string (strOfNums l2800)]) (ks := [0, 2, 5, 176, 177]) (e' := [(0, .string p0), (2, .pointer (some ⟨bx4, 0, none⟩)), (5, .pointer (some ⟨bx39, 0, none⟩)), (176, .string (strOfNums l2800)), (177, .pointer (some ((⟨bx39, 0, none⟩ : Addr).add 2)))]) rfl ⟨(ask_str tab rfl rfl rfl rfl (Own.rd f2801.now) (Own.plain f2801.now _ _ _ rfl)), trivial⟩ fun a hk => ?_
            refine x_op hk rfl ?_
            refine op_store tab hk (t := 9) (v := .string (strOfNums l2800)) (b := bx39) (k := 2) (cs' := [.string (ByteArray.extract p0 0 (Int.toNat x32)), .slice A1108 (l1110).length c1109, .string (strOfNums l2800)]) rfl rfl rfl rfl rfl rfl f40 rfl rfl fun w2804 o2805 st2806 f40_ => ?_
            replace f1111 := f1111.st st2806 (by decide)
            replace f5 := f5.st st2806 (by decide)
            replace fg4 := fg4.st st2806 (by decide)
            replace hs := hs.loc0 st2806 (by decide)
            replace f40 := f40_
            refine wpListIn_nil ?_
            refine then_n ?_
            refine x_seq ?_
            refine x_seq ?_
            refine wpIn_region_lit ?_
            refine x_run tab hk (k := 1) (lv := [.agg #[.string (ByteArray.extract p0 0 (Int.toNat x32)), .slice A1108 (l1110).length c1109, .string (strOfNums l2800)]]) (ks := [0, 2, 5, 178]) (e' := [(0, .string p0), (2, .pointer (some ⟨bx4, 0, none⟩)), (5, .pointer (some ⟨bx39, 0, none⟩)), (178, .agg #[.string (ByteArray.extract p0 0 (Int.toNat x32)), .slice A1108 (l1110).length c1109, .string (strOfNums l2800)])]) rfl ⟨(load_box tab rfl rfl f40.now (k := 0) rfl rfl), trivial⟩ fun a hk => ?_
            refine x_op hk rfl ?_
            obtain ⟨t2810, hc2811, H⟩ := bindS H
            refine op_call hk ent_13 (vs := [.agg #[.string (ByteArray.extract p0 0 (Int.toNat x32)), .slice A1108 (l1110).length c1109, .string (strOfNums l2800)]]) rfl (tidewrackref27_Line_calls K A1108 c1109 (⟨(ByteArray.extract p0 0 (Int.toNat x32)), l1110, (strOfNums l2800)⟩ : T25) _ o2805 0 fg4 _ (f1111.imp fun _ h_ => Own.rd h_) hc1112   _ hc2811) ?_
            rintro _ w2812 ⟨o2813, rfl, st2814⟩
            replace f1111 := f1111.st st2814 (by decide)
            replace f40 := f40.st st2814 (by decide)
            replace f5 := f5.st st2814 (by decide)
            replace fg4 := fg4.st st2814 (by decide)
            replace hs := hs.loc0 st2814 (by decide)
            have hk := hk.put 179 (.string t2810) rfl
            refine x_run tab hk (k := 2) (lv := []) (ks := [2, 5, 181]) (e' := [(2, .pointer (some ⟨bx4, 0, none⟩)), (5, .pointer (some ⟨bx39, 0, none⟩)), (181, .bool (!(ByteArray.toList t2810 == ByteArray.toList p0)))]) rfl trivial fun a hk => ?_
            refine wpListIn_nil ?_
            refine then_n ?_
            cases b2815 : (!(ByteArray.toList t2810 == ByteArray.toList p0))
            · rw [b2815] at hk H
              replace H := bifF H
              refine x_if hk (b := false) rfl ?_
              refine (show Code.wpIn _ _ _ _ _ _ _ from ?_)
              refine wpIn_skip ?_
              refine then_n ?_
              refine x_seq ?_
              refine wpIn_region_lit ?_
              refine x_run tab hk (k := 1) (lv := [.agg #[.string (ByteArray.extract p0 0 (Int.toNat x32)), .slice A1108 (l1110).length c1109, .string (strOfNums l2800)]]) (ks := [2, 183]) (e' := [(2, .pointer (some ⟨bx4, 0, none⟩)), (183, .agg #[.string (ByteArray.extract p0 0 (Int.toNat x32)), .slice A1108 (l1110).length c1109, .string (strOfNums l2800)])]) rfl ⟨(load_box tab rfl rfl f40.now (k := 0) rfl rfl), trivial⟩ fun a hk => ?_
              refine x_op hk rfl ?_
              refine op_store tab hk (t := 30) (v := .agg #[.string (ByteArray.extract p0 0 (Int.toNat x32)), .slice A1108 (l1110).length c1109, .string (strOfNums l2800)]) (b := bx4) (k := 0) (cs' := [.string (ByteArray.extract p0 0 (Int.toNat x32)), .slice A1108 (l1110).length c1109, .string (strOfNums l2800)]) rfl rfl rfl rfl rfl rfl f5 rfl rfl fun w2816 o2817 st2818 f5_ => ?_
              replace f1111 := f1111.st st2818 (by decide)
              replace fg4 := fg4.st st2818 (by decide)
              replace hs := hs.loc0 st2818 (by decide)
              replace f5 := f5_
              refine x_run tab hk (k := 1) (lv := []) (ks := [2, 3]) (e' := [(2, .pointer (some ⟨bx4, 0, none⟩)), (3, .int .i64 0)]) rfl trivial fun a hk => ?_
              refine wpListIn_nil ?_
              refine then_n ?_
              refine wpIn_ret ?_
              obtain rfl := Option.some.inj H
              exact x_retG hk (rs := [.cell 2 30, .tmp 3]) (vs := [.agg #[.string (ByteArray.extract p0 0 (Int.toNat x32)), .slice A1108 (l1110).length c1109, .string (strOfNums l2800)], .int .i64 0]) rfl ⟨⟨_, rfl, load_box tab rfl rfl f5.now (k := 0) rfl rfl⟩, rfl, trivial⟩ ⟨fun b_ => if b_ < w.heap.size then o b_ else (fun _ => R0) (o2817 b_), A1108, c1109, rfl, hs.close0 o (fun _ => R0), hs.close_ft (o := o) (ρ := fun _ => R0) f1111 (by decide) rfl, hc1112⟩
            · rw [b2815] at hk H
              replace H := bifT H
              refine x_if hk (b := true) rfl ?_
              refine (show Code.wpIn _ _ _ _ _ _ _ from ?_)
              refine x_seq ?_
              refine wpIn_region_lit ?_
              refine x_run tab hk (k := 1) (lv := []) (ks := [2, 182]) (e' := [(2, .pointer (some ⟨bx4, 0, none⟩)), (182, .agg #[.string (⟨#[]⟩ : ByteArray), .slice none 0 0, .string (⟨#[]⟩ : ByteArray)])]) rfl trivial fun a hk => ?_
              refine x_op hk rfl ?_
              refine op_store tab hk (t := 30) (v := .agg #[.string (⟨#[]⟩ : ByteArray), .slice none 0 0, .string (⟨#[]⟩ : ByteArray)]) (b := bx4) (k := 0) (cs' := [.string (⟨#[]⟩ : ByteArray), .slice none 0 0, .string (⟨#[]⟩ : ByteArray)]) rfl rfl rfl rfl rfl rfl f5 rfl rfl fun w2819 o2820 st2821 f5_ => ?_
              replace fg4 := fg4.st st2821 (by decide)
              replace hs := hs.loc0 st2821 (by decide)
              replace f5 := f5_
              refine x_run tab hk (k := 1) (lv := []) (ks := [2, 3]) (e' := [(2, .pointer (some ⟨bx4, 0, none⟩)), (3, .int .i64 1)]) rfl trivial fun a hk => ?_
              refine wpListIn_nil ?_
              refine then_n ?_
              refine wpIn_ret ?_
              refine then_r ?_
              obtain rfl := Option.some.inj H
              exact x_retG hk (rs := [.cell 2 30, .tmp 3]) (vs := [.agg #[.string (⟨#[]⟩ : ByteArray), .slice none 0 0, .string (⟨#[]⟩ : ByteArray)], .int .i64 1]) rfl ⟨⟨_, rfl, load_box tab rfl rfl f5.now (k := 0) rfl rfl⟩, rfl, trivial⟩ ⟨fun b_ => if b_ < w.heap.size then o b_ else (fun _ => 0) (o2820 b_), none, 0, rfl, hs.close0 o (fun _ => 0), (Ft.of_all (fun _ => Own.nil _ _ _) _ _ _), (by simp)⟩
          refine wpIn_block ?_
          refine x_loop (fun j_ a_ w_ => ∃ o3376 : Nat → Nat, ∃ x3377 : Int, ∃ A3378 : Option Addr, ∃ c3379 : Nat, ∃ l3380 : List Int, Kn 184 a_ [(0, .string p0), (2, .pointer (some ⟨bx4, 0, none⟩)), (4, .int .i64 x3377), (5, .pointer (some ⟨bx39, 0, none⟩)), (11, .slice A3378 (l3380).length c3379)] ∧ St [] w (fun _ => 0) w_ o3376 ∧ Ft (Own (encInt .i64) 3 (.slice A1108 (l1110).length c1109) l1110) w_ o3376 1028 ∧ Ft (Own (encInt .u8) 5 (.slice A3378 (l3380).length c3379) l3380) w_ o3376 1030 ∧ Ft (Bx bx39 30 [.string (ByteArray.extract p0 0 (Int.toNat x32)), .slice A1108 (l1110).length c1109, .string (⟨#[]⟩ : ByteArray)]) w_ o3376 1029 ∧ Ft (Bx bx4 30 [.string (⟨#[]⟩ : ByteArray), .slice none 0 0, .string (⟨#[]⟩ : ByteArray)]) w_ o3376 1027 ∧ Ft (GTab Tryd.prog "internal/strconv.uint64pow10" .u64 Lib.pow10Tab) w_ o3376 0 ∧ (l3380).length ≤ c3379 ∧ tidewrackref27_Parse_l5 K p0 x32 l1110 j_ x3377 l3380 = some r) (k := K) ⟨(fun b_ => (fun l_ => if l_ = 227 then 1027 else if l_ = 228 then 1028 else if l_ = 229 then 1029 else if l_ = 230 then 1030 else l_) (o1115 b_)), x1107, (some ⟨bx1117, 0, none⟩), 0, ([] : List Int), (by exact Kn.pick (ks := [0, 2, 4, 5, 11]) hk rfl), (hs.relab0 (fun l_ => if l_ = 227 then 1027 else if l_ = 228 then 1028 else if l_ = 229 then 1029 else if l_ = 230 then 1030 else l_) rfl), (f1111.relab (fun l_ => if l_ = 227 then 1027 else if l_ = 228 then 1028 else if l_ = 229 then 1029 else if l_ = 230 then 1030 else l_) rfl), (f1119.relab (fun l_ => if l_ = 227 then 1027 else if l_ = 228 then 1028 else if l_ = 229 then 1029 else if l_ = 230 then 1030 else l_) rfl), (f40.relab (fun l_ => if l_ = 227 then 1027 else if l_ = 228 then 1028 else if l_ = 229 then 1029 else if l_ = 230 then 1030 else l_) rfl), (f5.relab (fun l_ => if l_ = 227 then 1027 else if l_ = 228 then 1028 else if l_ = 229 then 1029 else if l_ = 230 then 1030 else l_) rfl), (fg4.relab (fun l_ => if l_ = 227 then 1027 else if l_ = 228 then 1028 else if l_ = 229 then 1029 else if l_ = 230 then 1030 else l_) rfl), (Nat.le_refl _), H⟩ (by rintro _ _ ⟨_, _, _, _, _, _, _, _, _, _, _, _, _, H_⟩; exact absurd (show (none : Option (T25 × Int)) = some r from H_) (by simp)) ?_
          rintro k3935 a w3934 ⟨o3376, x3377, A3378, c3379, l3380, hk, hs, f1111, f3381, f40, f5, fg4, hc3382, H⟩
          rw [tidewrackref27_Parse_l5] at H
          obtain ⟨lp3936, hlp3937⟩ : ∃ lp_, lp_ = tidewrackref27_Parse_l5 K p0 x32 l1110 k3935 := ⟨_, rfl⟩
          rw [← hlp3937] at H
          refine x_seq ?_
          refine x_seq ?_
          refine wpIn_region_lit ?_
          refine x_run tab hk (k := 5) (lv := []) (ks := [0, 2, 4, 5, 11, 109]) (e' := [(0, .string p0), (2, .pointer (some ⟨bx4, 0, none⟩)), (4, .int .i64 x3377), (5, .pointer (some ⟨bx39, 0, none⟩)), (11, .slice A3378 (l3380).length c3379), (109, .bool (decide (x3377 < (IntKind.wrap .i64 (((p0).size : Int) - 1)))))]) rfl trivial fun a hk => ?_
          refine wpListIn_nil ?_
          refine then_n ?_
          cases b3938 : (decide (x3377 < (IntKind.wrap .i64 (((p0).size : Int) - 1))))
          · rw [b3938] at hk H
            replace H := bifF H
            refine x_if hk (b := false) rfl ?_
            refine (show Code.wpIn _ _ _ _ _ _ _ from ?_)
            refine wpIn_exit ?_
            refine then_x ?_
            refine then_x ?_
            refine blk_x ?_
            refine then_n ?_
            exact ⟨(fun b_ => (fun l_ => if l_ = 1027 then 824 else if l_ = 1028 then 825 else if l_ = 1029 then 826 else if l_ = 1030 then 827 else l_) (o3376 b_)), A3378, c3379, l3380, (by exact Kn.pick (ks := [0, 2, 5, 11]) hk rfl), (hs.relab0 (fun l_ => if l_ = 1027 then 824 else if l_ = 1028 then 825 else if l_ = 1029 then 826 else if l_ = 1030 then 827 else l_) rfl), (f1111.relab (fun l_ => if l_ = 1027 then 824 else if l_ = 1028 then 825 else if l_ = 1029 then 826 else if l_ = 1030 then 827 else l_) rfl), (f3381.relab (fun l_ => if l_ = 1027 then 824 else if l_ = 1028 then 825 else if l_ = 1029 then 826 else if l_ = 1030 then 827 else l_) rfl), (f40.relab (fun l_ => if l_ = 1027 then 824 else if l_ = 1028 then 825 else if l_ = 1029 then 826 else if l_ = 1030 then 827 else l_) rfl), (f5.relab (fun l_ => if l_ = 1027 then 824 else if l_ = 1028 then 825 else if l_ = 1029 then 826 else if l_ = 1030 then 827 else l_) rfl), (fg4.relab (fun l_ => if l_ = 1027 then 824 else if l_ = 1028 then 825 else if l_ = 1029 then 826 else if l_ = 1030 then 827 else l_) rfl), hc3382, H⟩
          · rw [b3938] at hk H
            replace H := bifT H
            refine x_if hk (b := true) rfl ?_
            refine (show Code.wpIn _ _ _ _ _ _ _ from ?_)
            refine wpIn_skip ?_
            refine then_n ?_
            refine wpIn_block ?_
            refine x_mid (fun a_ w_ => ∃ o4207 : Nat → Nat, Kn 184 a_ [(0, .string p0), (2, .pointer (some ⟨bx4, 0, none⟩)), (4, .int .i64 x3377), (5, .pointer (some ⟨bx39, 0, none⟩)), (11, .slice A3378 (l3380).length c3379)] ∧ St [] w (fun _ => 0) w_ o4207 ∧ Ft (Own (encInt .i64) 3 (.slice A1108 (l1110).length c1109) l1110) w_ o4207 1322 ∧ Ft (Own (encInt .u8) 5 (.slice A3378 (l3380).length c3379) l3380) w_ o4207 1324 ∧ Ft (Bx bx39 30 [.string (ByteArray.extract p0 0 (Int.toNat x32)), .slice A1108 (l1110).length c1109, .string (⟨#[]⟩ : ByteArray)]) w_ o4207 1323 ∧ Ft (Bx bx4 30 [.string (⟨#[]⟩ : ByteArray), .slice none 0 0, .string (⟨#[]⟩ : ByteArray)]) w_ o4207 1321 ∧ Ft (GTab Tryd.prog "internal/strconv.uint64pow10" .u64 Lib.pow10Tab) w_ o4207 0 ∧ tidewrackref27_Parse_j6 p0 x3377 l3380 lp3936 = some r) ?_ ?_
            rotate_left
            · rintro a w4208 ⟨o4207, hk, hs, f1111, f3381, f40, f5, fg4, H⟩
              unfold tidewrackref27_Parse_j6 at H
              refine x_seq ?_
              refine wpIn_region_lit ?_
              obtain ⟨q4209, H⟩ := ifS H
              refine x_run tab hk (k := 4) (lv := []) (ks := [0, 2, 4, 5, 167, 170]) (e' := [(0, .string p0), (2, .pointer (some ⟨bx4, 0, none⟩)), (4, .int .i64 x3377), (5, .pointer (some ⟨bx39, 0, none⟩)), (167, .slice A3378 (l3380).length c3379), (170, .int .u8 (bt p0 x3377))]) rfl ⟨q4209, trivial⟩ fun a hk => ?_
              refine x_op hk rfl ?_
              refine op_slice (o := o4207) tab hk (vs := [.int .u8 (bt p0 x3377)]) (cs := [.int .u8 (bt p0 x3377)]) rfl rfl rfl rfl rfl rfl rfl rfl rfl 1325 fun bx4213 w4210 o4211 st4212 f4214 => ?_
              replace f1111 := f1111.st st4212 (by decide)
              replace f3381 := f3381.st st4212 (by decide)
              replace f40 := f40.st st4212 (by decide)
              replace f5 := f5.st st4212 (by decide)
              replace fg4 := fg4.st st4212 (by decide)
              replace hs := hs.loc0 st4212 (by decide)
              have f4215 : Ft (Own (encInt .u8) 5 (.slice (some ⟨bx4213, 0, none⟩) (([(bt p0 x3377)] : List Int)).length 1) ([(bt p0 x3377)] : List Int)) w4210 o4211 1325 := f4214.imp fun _ h_ => Own.of_box h_ rfl (by simp)
              have hk := hk.put 171 (.slice (some ⟨bx4213, 0, none⟩) (([(bt p0 x3377)] : List Int)).length 1) rfl
              refine x_op hk rfl ?_
              obtain ⟨q4219, H⟩ := ifS H
              refine op_append (o := o4211) (E := (encInt .u8)) (xs := l3380) (ys := ([(bt p0 x3377)] : List Int)) tab hk rfl rfl rfl rfl rfl rfl rfl f3381 (Own.rd f4215.now) q4219 fun A4220 c4221 w4216 o4217 st4218 f4222 hc4223 => ?_
              replace f1111 := f1111.st st4218 (by decide)
              replace f40 := f40.st st4218 (by decide)
              replace f4215 := f4215.st st4218 (by decide)
              replace f5 := f5.st st4218 (by decide)
              replace fg4 := fg4.st st4218 (by decide)
              replace hs := hs.loc0 st4218 (by decide)
              have hk := hk.put 172 (.slice A4220 ((l3380 ++ ([(bt p0 x3377)] : List Int))).length c4221) rfl
              refine x_run tab hk (k := 1) (lv := []) (ks := [0, 2, 4, 5, 11]) (e' := [(0, .string p0), (2, .pointer (some ⟨bx4, 0, none⟩)), (4, .int .i64 x3377), (5, .pointer (some ⟨bx39, 0, none⟩)), (11, .slice A4220 ((l3380 ++ ([(bt p0 x3377)] : List Int))).length c4221)]) rfl trivial fun a hk => ?_
              refine wpListIn_nil ?_
              refine then_n ?_
              refine wpIn_region_lit ?_
              refine x_run tab hk (k := 3) (lv := []) (ks := [0, 2, 4, 5, 11]) (e' := [(0, .string p0), (2, .pointer (some ⟨bx4, 0, none⟩)), (4, .int .i64 (IntKind.wrap .i64 (x3377 + 1))), (5, .pointer (some ⟨bx39, 0, none⟩)), (11, .slice A4220 ((l3380 ++ ([(bt p0 x3377)] : List Int))).length c4221)]) rfl trivial fun a hk => ?_
              refine wpListIn_nil ?_
              refine blk_n ?_
              refine then_n ?_
              exact ⟨k3935, Nat.le_refl _, (fun b_ => (fun l_ => if l_ = 1321 then 1027 else if l_ = 1322 then 1028 else if l_ = 1323 then 1029 else if l_ = 1324 then 1030 else l_) (o4217 b_)), (IntKind.wrap .i64 (x3377 + 1)), A4220, c4221, (l3380 ++ ([(bt p0 x3377)] : List Int)), (by exact Kn.pick (ks := [0, 2, 4, 5, 11]) hk rfl), (hs.relab0 (fun l_ => if l_ = 1321 then 1027 else if l_ = 1322 then 1028 else if l_ = 1323 then 1029 else if l_ = 1324 then 1030 else l_) rfl), (f1111.relab (fun l_ => if l_ = 1321 then 1027 else if l_ = 1322 then 1028 else if l_ = 1323 then 1029 else if l_ = 1324 then 1030 else l_) rfl), (f4222.relab (fun l_ => if l_ = 1321 then 1027 else if l_ = 1322 then 1028 else if l_ = 1323 then 1029 else if l_ = 1324 then 1030 else l_) rfl), (f40.relab (fun l_ => if l_ = 1321 then 1027 else if l_ = 1322 then 1028 else if l_ = 1323 then 1029 else if l_ = 1324 then 1030 else l_) rfl), (f5.relab (fun l_ => if l_ = 1321 then 1027 else if l_ = 1322 then 1028 else if l_ = 1323 then 1029 else if l_ = 1324 then 1030 else l_) rfl), (fg4.relab (fun l_ => if l_ = 1321 then 1027 else if l_ = 1322 then 1028 else if l_ = 1323 then 1029 else if l_ = 1324 then 1030 else l_) rfl), hc4223, (hlp3937 ▸ H)⟩
            refine x_mid (fun a_ w_ => ∃ o4232 : Nat → Nat, ∃ x4233 : Bool, Kn 184 a_ [(0, .string p0), (2, .pointer (some ⟨bx4, 0, none⟩)), (4, .int .i64 x3377), (5, .pointer (some ⟨bx39, 0, none⟩)), (11, .slice A3378 (l3380).length c3379), (120, .bool x4233)] ∧ St [] w (fun _ => 0) w_ o4232 ∧ Ft (Own (encInt .i64) 3 (.slice A1108 (l1110).length c1109) l1110) w_ o4232 1327 ∧ Ft (Own (encInt .u8) 5 (.slice A3378 (l3380).length c3379) l3380) w_ o4232 1329 ∧ Ft (Bx bx39 30 [.string (ByteArray.extract p0 0 (Int.toNat x32)), .slice A1108 (l1110).length c1109, .string (⟨#[]⟩ : ByteArray)]) w_ o4232 1328 ∧ Ft (Bx bx4 30 [.string (⟨#[]⟩ : ByteArray), .slice none 0 0, .string (⟨#[]⟩ : ByteArray)]) w_ o4232 1326 ∧ Ft (GTab Tryd.prog "internal/strconv.uint64pow10" .u64 Lib.pow10Tab) w_ o4232 0 ∧ tidewrackref27_Parse_j7 K p0 x3377 l3380 lp3936 x4233 = some r) ?_ ?_
            rotate_left
            · rintro a w4234 ⟨o4232, x4233, hk, hs, f1111, f3381, f40, f5, fg4, H⟩
              unfold tidewrackref27_Parse_j7 at H
              cases b4235 : x4233
              · rw [b4235] at hk H
                replace H := bifF H
                refine x_if hk (b := false) rfl ?_
                refine (show Code.wpIn _ _ _ _ _ _ _ from ?_)
                refine wpIn_skip ?_
                refine then_n ?_
                exact ⟨(fun b_ => (fun l_ => if l_ = 1326 then 1321 else if l_ = 1327 then 1322 else if l_ = 1328 then 1323 else if l_ = 1329 then 1324 else l_) (o4232 b_)), (by exact Kn.pick (ks := [0, 2, 4, 5, 11]) hk rfl), (hs.relab0 (fun l_ => if l_ = 1326 then 1321 else if l_ = 1327 then 1322 else if l_ = 1328 then 1323 else if l_ = 1329 then 1324 else l_) rfl), (f1111.relab (fun l_ => if l_ = 1326 then 1321 else if l_ = 1327 then 1322 else if l_ = 1328 then 1323 else if l_ = 1329 then 1324 else l_) rfl), (f3381.relab (fun l_ => if l_ = 1326 then 1321 else if l_ = 1327 then 1322 else if l_ = 1328 then 1323 else if l_ = 1329 then 1324 else l_) rfl), (f40.relab (fun l_ => if l_ = 1326 then 1321 else if l_ = 1327 then 1322 else if l_ = 1328 then 1323 else if l_ = 1329 then 1324 else l_) rfl), (f5.relab (fun l_ => if l_ = 1326 then 1321 else if l_ = 1327 then 1322 else if l_ = 1328 then 1323 else if l_ = 1329 then 1324 else l_) rfl), (fg4.relab (fun l_ => if l_ = 1326 then 1321 else if l_ = 1327 then 1322 else if l_ = 1328 then 1323 else if l_ = 1329 then 1324 else l_) rfl), H⟩
              · rw [b4235] at hk H
                replace H := bifT H
                refine x_if hk (b := true) rfl ?_
                refine (show Code.wpIn _ _ _ _ _ _ _ from ?_)
                refine x_seq ?_
                refine wpIn_region_lit ?_
                refine x_run tab hk (k := 1) (lv := []) (ks := [0, 2, 4, 5, 11, 12]) (e' := [(0, .string p0), (2, .pointer (some ⟨bx4, 0, none⟩)), (4, .int .i64 x3377), (5, .pointer (some ⟨bx39, 0, none⟩)), (11, .slice A3378 (l3380).length c3379), (12, .int .i64 0)]) rfl trivial fun a hk => ?_
                refine wpListIn_nil ?_
                refine then_n ?_
                refine x_mid (fun a_ w_ => ∃ o4356 : Nat → Nat, ∃ x4357 : Int, Kn 184 a_ [(0, .string p0), (2, .pointer (some ⟨bx4, 0, none⟩)), (4, .int .i64 x3377), (5, .pointer (some ⟨bx39, 0, none⟩)), (11, .slice A3378 (l3380).length c3379), (12, .int .i64 x4357)] ∧ St [] w (fun _ => 0) w_ o4356 ∧ Ft (Own (encInt .i64) 3 (.slice A1108 (l1110).length c1109) l1110) w_ o4356 1374 ∧ Ft (Own (encInt .u8) 5 (.slice A3378 (l3380).length c3379) l3380) w_ o4356 1376 ∧ Ft (Bx bx39 30 [.string (ByteArray.extract p0 0 (Int.toNat x32)), .slice A1108 (l1110).length c1109, .string (⟨#[]⟩ : ByteArray)]) w_ o4356 1375 ∧ Ft (Bx bx4 30 [.string (⟨#[]⟩ : ByteArray), .slice none 0 0, .string (⟨#[]⟩ : ByteArray)]) w_ o4356 1373 ∧ Ft (GTab Tryd.prog "internal/strconv.uint64pow10" .u64 Lib.pow10Tab) w_ o4356 0 ∧ tidewrackref27_Parse_j8 x3377 l3380 lp3936 x4357 = some r) ?_ ?_
                rotate_left
                · rintro a w4358 ⟨o4356, x4357, hk, hs, f1111, f3381, f40, f5, fg4, H⟩
                  unfold tidewrackref27_Parse_j8 at H
                  refine x_seq ?_
                  refine wpIn_region_lit ?_
                  refine x_run tab hk (k := 3) (lv := []) (ks := [0, 2, 4, 5, 160, 162]) (e' := [(0, .string p0), (2, .pointer (some ⟨bx4, 0, none⟩)), (4, .int .i64 x3377), (5, .pointer (some ⟨bx39, 0, none⟩)), (160, .slice A3378 (l3380).length c3379), (162, .int .u8 (IntKind.wrap .u8 x4357))]) rfl trivial fun a hk => ?_
                  refine x_op hk rfl ?_
                  refine op_slice (o := o4356) tab hk (vs := [.int .u8 (IntKind.wrap .u8 x4357)]) (cs := [.int .u8 (IntKind.wrap .u8 x4357)]) rfl rfl rfl rfl rfl rfl rfl rfl rfl 1377 fun bx4362 w4359 o4360 st4361 f4363 => ?_
                  replace f1111 := f1111.st st4361 (by decide)
                  replace f3381 := f3381.st st4361 (by decide)
                  replace f40 := f40.st st4361 (by decide)
                  replace f5 := f5.st st4361 (by decide)
                  replace fg4 := fg4.st st4361 (by decide)
                  replace hs := hs.loc0 st4361 (by decide)
                  have f4364 : Ft (Own (encInt .u8) 5 (.slice (some ⟨bx4362, 0, none⟩) (([(IntKind.wrap .u8 x4357)] : List Int)).length 1) ([(IntKind.wrap .u8 x4357)] : List Int)) w4359 o4360 1377 := f4363.imp fun _ h_ => Own.of_box h_ rfl (by simp)
                  have hk := hk.put 163 (.slice (some ⟨bx4362, 0, none⟩) (([(IntKind.wrap .u8 x4357)] : List Int)).length 1) rfl
                  refine x_op hk rfl ?_
                  obtain ⟨q4368, H⟩ := ifS H
                  refine op_append (o := o4360) (E := (encInt .u8)) (xs := l3380) (ys := ([(IntKind.wrap .u8 x4357)] : List Int)) tab hk rfl rfl rfl rfl rfl rfl rfl f3381 (Own.rd f4364.now) q4368 fun A4369 c4370 w4365 o4366 st4367 f4371 hc4372 => ?_
                  replace f1111 := f1111.st st4367 (by decide)
                  replace f40 := f40.st st4367 (by decide)
                  replace f4364 := f4364.st st4367 (by decide)
                  replace f5 := f5.st st4367 (by decide)
                  replace fg4 := fg4.st st4367 (by decide)
                  replace hs := hs.loc0 st4367 (by decide)
                  have hk := hk.put 164 (.slice A4369 ((l3380 ++ ([(IntKind.wrap .u8 x4357)] : List Int))).length c4370) rfl
                  refine x_run tab hk (k := 1) (lv := []) (ks := [0, 2, 4, 5, 11]) (e' := [(0, .string p0), (2, .pointer (some ⟨bx4, 0, none⟩)), (4, .int .i64 x3377), (5, .pointer (some ⟨bx39, 0, none⟩)), (11, .slice A4369 ((l3380 ++ ([(IntKind.wrap .u8 x4357)] : List Int))).length c4370)]) rfl trivial fun a hk => ?_
                  refine wpListIn_nil ?_
                  refine then_n ?_
                  refine x_seq ?_
                  refine wpIn_region_lit ?_
                  refine x_run tab hk (k := 3) (lv := []) (ks := [0, 2, 4, 5, 11]) (e' := [(0, .string p0), (2, .pointer (some ⟨bx4, 0, none⟩)), (4, .int .i64 (IntKind.wrap .i64 (x3377 + 3))), (5, .pointer (some ⟨bx39, 0, none⟩)), (11, .slice A4369 ((l3380 ++ ([(IntKind.wrap .u8 x4357)] : List Int))).length c4370)]) rfl trivial fun a hk => ?_
                  refine wpListIn_nil ?_
                  refine then_n ?_
                  refine wpIn_exit ?_
                  refine then_x ?_
                  refine blk_x ?_
                  refine then_n ?_
                  exact ⟨k3935, Nat.le_refl _, (fun b_ => (fun l_ => if l_ = 1373 then 1027 else if l_ = 1374 then 1028 else if l_ = 1375 then 1029 else if l_ = 1376 then 1030 else l_) (o4366 b_)), (IntKind.wrap .i64 (x3377 + 3)), A4369, c4370, (l3380 ++ ([(IntKind.wrap .u8 x4357)] : List Int)), (by exact Kn.pick (ks := [0, 2, 4, 5, 11]) hk rfl), (hs.relab0 (fun l_ => if l_ = 1373 then 1027 else if l_ = 1374 then 1028 else if l_ = 1375 then 1029 else if l_ = 1376 then 1030 else l_) rfl), (f1111.relab (fun l_ => if l_ = 1373 then 1027 else if l_ = 1374 then 1028 else if l_ = 1375 then 1029 else if l_ = 1376 then 1030 else l_) rfl), (f4371.relab (fun l_ => if l_ = 1373 then 1027 else if l_ = 1374 then 1028 else if l_ = 1375 then 1029 else if l_ = 1376 then 1030 else l_) rfl), (f40.relab (fun l_ => if l_ = 1373 then 1027 else if l_ = 1374 then 1028 else if l_ = 1375 then 1029 else if l_ = 1376 then 1030 else l_) rfl), (f5.relab (fun l_ => if l_ = 1373 then 1027 else if l_ = 1374 then 1028 else if l_ = 1375 then 1029 else if l_ = 1376 then 1030 else l_) rfl), (fg4.relab (fun l_ => if l_ = 1373 then 1027 else if l_ = 1374 then 1028 else if l_ = 1375 then 1029 else if l_ = 1376 then 1030 else l_) rfl), hc4372, (hlp3937 ▸ H)⟩
                refine x_seq ?_
                refine xd_begin (o := o4232) (fun W_ => True) mixed rfl rfl fun w4389 st4390 => ?_
                replace f1111 := f1111.st st4390 (by decide)
                replace f3381 := f3381.st st4390 (by decide)
                replace f40 := f40.st st4390 (by decide)
                replace f5 := f5.st st4390 (by decide)
                replace fg4 := fg4.st st4390 (by decide)
                replace hs := hs.loc0 st4390 (by decide)
                obtain ⟨q4391, H⟩ := ifS H
                refine xd_take tab hk (k := 5) (is := [0, 1, 2, 3, 4, 5]) (ls' := #[true, true, true, true, true, true, false, false, false, false, false]) (lv := []) (ks := [0, 2, 4, 5, 11, 12, 124, 125, 126]) (e' := [(0, .string p0), (2, .pointer (some ⟨bx4, 0, none⟩)), (4, .int .i64 x3377), (5, .pointer (some ⟨bx39, 0, none⟩)), (11, .slice A3378 (l3380).length c3379), (12, .int .i64 0), (124, .int .u8 (bt p0 (IntKind.wrap .i64 (x3377 + 1)))), (125, .string p0), (126, .int .i64 x3377)]) (by kernel_rfl) rfl rfl (by kernel_rfl) (np_then (np_then (np_then (np_blk (np_then (np_blk (np_then np_body))))))) trivial (fun W_ hS => ⟨q4391, trivial⟩) fun a hk => ?_
                obtain ⟨q4392, H⟩ := ifS H
                refine xd_take tab hk (k := 2) (is := [6, 7, 10]) (ls' := #[true, true, true, true, true, true, true, true, false, false, true]) (lv := []) (ks := [0, 2, 4, 5, 11, 12, 124, 128, 131]) (e' := [(0, .string p0), (2, .pointer (some ⟨bx4, 0, none⟩)), (4, .int .i64 x3377), (5, .pointer (some ⟨bx39, 0, none⟩)), (11, .slice A3378 (l3380).length c3379), (12, .int .i64 0), (124, .int .u8 (bt p0 (IntKind.wrap .i64 (x3377 + 1)))), (128, .int .u8 (bt p0 (IntKind.wrap .i64 (x3377 + 2)))), (131, .int .i64 0)]) (by kernel_rfl) rfl rfl (by kernel_rfl) (np_then (np_then (np_then (np_blk (np_then (np_blk (np_then np_body))))))) trivial (fun W_ hS => ⟨q4392, trivial⟩) fun a hk => ?_
                refine xd_op hk (i := 8) (by kernel_rfl) rfl rfl ?_
                refine op_slice (o := o4232) tab hk (vs := [.int .u8 (bt p0 (IntKind.wrap .i64 (x3377 + 1))), .int .u8 (bt p0 (IntKind.wrap .i64 (x3377 + 2)))]) (cs := [.int .u8 (bt p0 (IntKind.wrap .i64 (x3377 + 1))), .int .u8 (bt p0 (IntKind.wrap .i64 (x3377 + 2)))]) rfl rfl rfl rfl rfl rfl rfl rfl rfl 1380 fun bx4396 w4393 o4394 st4395 f4397 => ?_
                replace f1111 := f1111.st st4395 (by decide)
                replace f3381 := f3381.st st4395 (by decide)
                replace f40 := f40.st st4395 (by decide)
                replace f5 := f5.st st4395 (by decide)
                replace fg4 := fg4.st st4395 (by decide)
                replace hs := hs.loc0 st4395 (by decide)
                have f4398 : Ft (Own (encInt .u8) 5 (.slice (some ⟨bx4396, 0, none⟩) (([(bt p0 (IntKind.wrap .i64 (x3377 + 1))), (bt p0 (IntKind.wrap .i64 (x3377 + 2)))] : List Int)).length 2) ([(bt p0 (IntKind.wrap .i64 (x3377 + 1))), (bt p0 (IntKind.wrap .i64 (x3377 + 2)))] : List Int)) w4393 o4394 1380 := f4397.imp fun _ h_ => Own.of_box h_ rfl (by simp)
                have hk := hk.put 129 (.slice (some ⟨bx4396, 0, none⟩) (([(bt p0 (IntKind.wrap .i64 (x3377 + 1))), (bt p0 (IntKind.wrap .i64 (x3377 + 2)))] : List Int)).length 2) rfl
                refine ⟨.inr trivial, ?_⟩
                refine xd_take tab hk (k := 0) (is := [9]) (ls' := #[true, true, true, true, true, true, true, true, true, true, true]) (lv := []) (ks := [0, 2, 4, 5, 11, 12, 129, 130, 131]) (e' := [(0, .string p0), (2, .pointer (some ⟨bx4, 0, none⟩)), (4, .int .i64 x3377), (5, .pointer (some ⟨bx39, 0, none⟩)), (11, .slice A3378 (l3380).length c3379), (12, .int .i64 0), (129, .slice (some ⟨bx4396, 0, none⟩) (([(bt p0 (IntKind.wrap .i64 (x3377 + 1))), (bt p0 (IntKind.wrap .i64 (x3377 + 2)))] : List Int)).length 2), (130, .int .i64 ((([(bt p0 (IntKind.wrap .i64 (x3377 + 1))), (bt p0 (IntKind.wrap .i64 (x3377 + 2)))] : List Int)).length : Int)), (131, .int .i64 0)]) (by kernel_rfl) rfl rfl (by kernel_rfl) (np_then (np_then (np_then (np_blk (np_then (np_blk (np_then np_body))))))) trivial (fun W_ hS => trivial) fun a hk => ?_
                refine xd_done (by kernel_rfl) ?_
                refine then_n ?_
                refine wpIn_block ?_
                refine x_loop (fun j_ a_ w_ => ∃ o4428 : Nat → Nat, ∃ x4429 : Int, ∃ x4430 : Int, Kn 184 a_ [(0, .string p0), (2, .pointer (some ⟨bx4, 0, none⟩)), (4, .int .i64 x3377), (5, .pointer (some ⟨bx39, 0, none⟩)), (11, .slice A3378 (l3380).length c3379), (12, .int .i64 x4429), (129, .slice (some ⟨bx4396, 0, none⟩) (([(bt p0 (IntKind.wrap .i64 (x3377 + 1))), (bt p0 (IntKind.wrap .i64 (x3377 + 2)))] : List Int)).length 2), (130, .int .i64 ((([(bt p0 (IntKind.wrap .i64 (x3377 + 1))), (bt p0 (IntKind.wrap .i64 (x3377 + 2)))] : List Int)).length : Int)), (131, .int .i64 x4430)] ∧ St [] w (fun _ => 0) w_ o4428 ∧ Ft (Own (encInt .i64) 3 (.slice A1108 (l1110).length c1109) l1110) w_ o4428 1397 ∧ Ft (Own (encInt .u8) 5 (.slice A3378 (l3380).length c3379) l3380) w_ o4428 1399 ∧ Ft (Bx bx39 30 [.string (ByteArray.extract p0 0 (Int.toNat x32)), .slice A1108 (l1110).length c1109, .string (⟨#[]⟩ : ByteArray)]) w_ o4428 1398 ∧ Ft (Own (encInt .u8) 5 (.slice (some ⟨bx4396, 0, none⟩) (([(bt p0 (IntKind.wrap .i64 (x3377 + 1))), (bt p0 (IntKind.wrap .i64 (x3377 + 2)))] : List Int)).length 2) ([(bt p0 (IntKind.wrap .i64 (x3377 + 1))), (bt p0 (IntKind.wrap .i64 (x3377 + 2)))] : List Int)) w_ o4428 1400 ∧ Ft (Bx bx4 30 [.string (⟨#[]⟩ : ByteArray), .slice none 0 0, .string (⟨#[]⟩ : ByteArray)]) w_ o4428 1396 ∧ Ft (GTab Tryd.prog "internal/strconv.uint64pow10" .u64 Lib.pow10Tab) w_ o4428 0 ∧ tidewrackref27_Parse_l9 p0 x3377 l3380 lp3936 j_ x4429 x4430 = some r) (k := K) ⟨(fun b_ => (fun l_ => if l_ = 1326 then 1396 else if l_ = 1327 then 1397 else if l_ = 1328 then 1398 else if l_ = 1329 then 1399 else if l_ = 1380 then 1400 else l_) (o4394 b_)), 0, 0, (by exact Kn.pick (ks := [0, 2, 4, 5, 11, 12, 129, 130, 131]) hk rfl), (hs.relab0 (fun l_ => if l_ = 1326 then 1396 else if l_ = 1327 then 1397 else if l_ = 1328 then 1398 else if l_ = 1329 then 1399 else if l_ = 1380 then 1400 else l_) rfl), (f1111.relab (fun l_ => if l_ = 1326 then 1396 else if l_ = 1327 then 1397 else if l_ = 1328 then 1398 else if l_ = 1329 then 1399 else if l_ = 1380 then 1400 else l_) rfl), (f3381.relab (fun l_ => if l_ = 1326 then 1396 else if l_ = 1327 then 1397 else if l_ = 1328 then 1398 else if l_ = 1329 then 1399 else if l_ = 1380 then 1400 else l_) rfl), (f40.relab (fun l_ => if l_ = 1326 then 1396 else if l_ = 1327 then 1397 else if l_ = 1328 then 1398 else if l_ = 1329 then 1399 else if l_ = 1380 then 1400 else l_) rfl), (f4398.relab (fun l_ => if l_ = 1326 then 1396 else if l_ = 1327 then 1397 else if l_ = 1328 then 1398 else if l_ = 1329 then 1399 else if l_ = 1380 then 1400 else l_) rfl), (f5.relab (fun l_ => if l_ = 1326 then 1396 else if l_ = 1327 then 1397 else if l_ = 1328 then 1398 else if l_ = 1329 then 1399 else if l_ = 1380 then 1400 else l_) rfl), (fg4.relab (fun l_ => if l_ = 1326 then 1396 else if l_ = 1327 then 1397 else if l_ = 1328 then 1398 else if l_ = 1329 then 1399 else if l_ = 1380 then 1400 else l_) rfl), H⟩ (by rintro _ _ ⟨_, _, _, _, _, _, _, _, _, _, _, H_⟩; exact absurd (show (none : Option (T25 × Int)) = some r from H_) (by simp)) ?_
                rintro k4458 a w4457 ⟨o4428, x4429, x4430, hk, hs, f1111, f3381, f40, f4398, f5, fg4, H⟩
                rw [tidewrackref27_Parse_l9] at H
                obtain ⟨lp4459, hlp4460⟩ : ∃ lp_, lp_ = tidewrackref27_Parse_l9 p0 x3377 l3380 lp3936 k4458 := ⟨_, rfl⟩
                rw [← hlp4460] at H
                refine x_seq ?_
                refine wpIn_region_lit ?_
                refine x_run tab hk (k := 1) (lv := []) (ks := [0, 2, 4, 5, 11, 12, 129, 130, 131, 132]) (e' := [(0, .string p0), (2, .pointer (some ⟨bx4, 0, none⟩)), (4, .int .i64 x3377), (5, .pointer (some ⟨bx39, 0, none⟩)), (11, .slice A3378 (l3380).length c3379), (12, .int .i64 x4429), (129, .slice (some ⟨bx4396, 0, none⟩) (([(bt p0 (IntKind.wrap .i64 (x3377 + 1))), (bt p0 (IntKind.wrap .i64 (x3377 + 2)))] : List Int)).length 2), (130, .int .i64 ((([(bt p0 (IntKind.wrap .i64 (x3377 + 1))), (bt p0 (IntKind.wrap .i64 (x3377 + 2)))] : List Int)).length : Int)), (131, .int .i64 x4430), (132, .bool (decide (x4430 < ((([(bt p0 (IntKind.wrap .i64 (x3377 + 1))), (bt p0 (IntKind.wrap .i64 (x3377 + 2)))] : List Int)).length : Int))))]) rfl trivial fun a hk => ?_
                refine wpListIn_nil ?_
                refine then_n ?_
                refine x_seq ?_
                cases b4461 : (decide (x4430 < ((([(bt p0 (IntKind.wrap .i64 (x3377 + 1))), (bt p0 (IntKind.wrap .i64 (x3377 + 2)))] : List Int)).length : Int)))
                · rw [b4461] at hk H
                  replace H := bifF H
                  refine x_if hk (b := false) rfl ?_
                  refine (show Code.wpIn _ _ _ _ _ _ _ from ?_)
                  refine wpIn_exit ?_
                  refine then_x ?_
                  refine then_x ?_
                  refine blk_x ?_
                  refine then_n ?_
                  exact ⟨(fun b_ => (fun l_ => if l_ = 1396 then 1373 else if l_ = 1397 then 1374 else if l_ = 1398 then 1375 else if l_ = 1399 then 1376 else l_) (o4428 b_)), x4429, (by exact Kn.pick (ks := [0, 2, 4, 5, 11, 12]) hk rfl), (hs.relab0 (fun l_ => if l_ = 1396 then 1373 else if l_ = 1397 then 1374 else if l_ = 1398 then 1375 else if l_ = 1399 then 1376 else l_) rfl), (f1111.relab (fun l_ => if l_ = 1396 then 1373 else if l_ = 1397 then 1374 else if l_ = 1398 then 1375 else if l_ = 1399 then 1376 else l_) rfl), (f3381.relab (fun l_ => if l_ = 1396 then 1373 else if l_ = 1397 then 1374 else if l_ = 1398 then 1375 else if l_ = 1399 then 1376 else l_) rfl), (f40.relab (fun l_ => if l_ = 1396 then 1373 else if l_ = 1397 then 1374 else if l_ = 1398 then 1375 else if l_ = 1399 then 1376 else l_) rfl), (f5.relab (fun l_ => if l_ = 1396 then 1373 else if l_ = 1397 then 1374 else if l_ = 1398 then 1375 else if l_ = 1399 then 1376 else l_) rfl), (fg4.relab (fun l_ => if l_ = 1396 then 1373 else if l_ = 1397 then 1374 else if l_ = 1398 then 1375 else if l_ = 1399 then 1376 else l_) rfl), H⟩
                · rw [b4461] at hk H
                  replace H := bifT H
                  refine x_if hk (b := true) rfl ?_
                  refine (show Code.wpIn _ _ _ _ _ _ _ from ?_)
                  refine wpIn_skip ?_
                  refine then_n ?_
                  refine x_seq ?_
                  refine wpIn_block ?_
                  refine x_seq ?_
                  refine wpIn_region_lit ?_
                  obtain ⟨q4462, H⟩ := ifS H
                  refine x_run tab hk (k := 3) (lv := [.int .u8 (rdD 0 ([(bt p0 (IntKind.wrap .i64 (x3377 + 1))), (bt p0 (IntKind.wrap .i64 (x3377 + 2)))] : List Int) x4430)]) (ks := [0, 2, 4, 5, 11, 12, 14, 129, 130, 131]) (e' := [(0, .string p0), (2, .pointer (some ⟨bx4, 0, none⟩)), (4, .int .i64 x3377), (5, .pointer (some ⟨bx39, 0, none⟩)), (11, .slice A3378 (l3380).length c3379), (12, .int .i64 x4429), (14, .int .u8 (rdD 0 ([(bt p0 (IntKind.wrap .i64 (x3377 + 1))), (bt p0 (IntKind.wrap .i64 (x3377 + 2)))] : List Int) x4430)), (129, .slice (some ⟨bx4396, 0, none⟩) (([(bt p0 (IntKind.wrap .i64 (x3377 + 1))), (bt p0 (IntKind.wrap .i64 (x3377 + 2)))] : List Int)).length 2), (130, .int .i64 ((([(bt p0 (IntKind.wrap .i64 (x3377 + 1))), (bt p0 (IntKind.wrap .i64 (x3377 + 2)))] : List Int)).length : Int)), (131, .int .i64 x4430)]) rfl ⟨q4462, (load1 tab rfl (RdC.at0 (E := (encInt .u8)) (d := 0) (i := x4430) (Own.rd f4398.now) q4462 rfl)), trivial⟩ fun a hk => ?_
                  refine wpListIn_nil ?_
                  refine then_n ?_
                  refine x_seq ?_
                  refine wpIn_region_lit ?_
                  refine x_run tab hk (k := 3) (lv := []) (ks := [0, 2, 4, 5, 11, 12, 14, 129, 130, 131]) (e' := [(0, .string p0), (2, .pointer (some ⟨bx4, 0, none⟩)), (4, .int .i64 x3377), (5, .pointer (some ⟨bx39, 0, none⟩)), (11, .slice A3378 (l3380).length c3379), (12, .int .i64 (IntKind.wrap .i64 (16 * x4429))), (14, .int .u8 (rdD 0 ([(bt p0 (IntKind.wrap .i64 (x3377 + 1))), (bt p0 (IntKind.wrap .i64 (x3377 + 2)))] : List Int) x4430)), (129, .slice (some ⟨bx4396, 0, none⟩) (([(bt p0 (IntKind.wrap .i64 (x3377 + 1))), (bt p0 (IntKind.wrap .i64 (x3377 + 2)))] : List Int)).length 2), (130, .int .i64 ((([(bt p0 (IntKind.wrap .i64 (x3377 + 1))), (bt p0 (IntKind.wrap .i64 (x3377 + 2)))] : List Int)).length : Int)), (131, .int .i64 x4430)]) rfl trivial fun a hk => ?_
                  refine wpListIn_nil ?_
                  refine then_n ?_
                  refine x_mid (fun a_ w_ => ∃ o4470 : Nat → Nat, ∃ x4471 : Bool, Kn 184 a_ [(0, .string p0), (2, .pointer (some ⟨bx4, 0, none⟩)), (4, .int .i64 x3377), (5, .pointer (some ⟨bx39, 0, none⟩)), (11, .slice A3378 (l3380).length c3379), (12, .int .i64 (IntKind.wrap .i64 (16 * x4429))), (14, .int .u8 (rdD 0 ([(bt p0 (IntKind.wrap .i64 (x3377 + 1))), (bt p0 (IntKind.wrap .i64 (x3377 + 2)))] : List Int) x4430)), (129, .slice (some ⟨bx4396, 0, none⟩) (([(bt p0 (IntKind.wrap .i64 (x3377 + 1))), (bt p0 (IntKind.wrap .i64 (x3377 + 2)))] : List Int)).length 2), (130, .int .i64 ((([(bt p0 (IntKind.wrap .i64 (x3377 + 1))), (bt p0 (IntKind.wrap .i64 (x3377 + 2)))] : List Int)).length : Int)), (131, .int .i64 x4430), (142, .bool x4471)] ∧ St [] w (fun _ => 0) w_ o4470 ∧ Ft (Own (encInt .i64) 3 (.slice A1108 (l1110).length c1109) l1110) w_ o4470 1412 ∧ Ft (Own (encInt .u8) 5 (.slice A3378 (l3380).length c3379) l3380) w_ o4470 1414 ∧ Ft (Bx bx39 30 [.string (ByteArray.extract p0 0 (Int.toNat x32)), .slice A1108 (l1110).length c1109, .string (⟨#[]⟩ : ByteArray)]) w_ o4470 1413 ∧ Ft (Own (encInt .u8) 5 (.slice (some ⟨bx4396, 0, none⟩) (([(bt p0 (IntKind.wrap .i64 (x3377 + 1))), (bt p0 (IntKind.wrap .i64 (x3377 + 2)))] : List Int)).length 2) ([(bt p0 (IntKind.wrap .i64 (x3377 + 1))), (bt p0 (IntKind.wrap .i64 (x3377 + 2)))] : List Int)) w_ o4470 1415 ∧ Ft (Bx bx4 30 [.string (⟨#[]⟩ : ByteArray), .slice none 0 0, .string (⟨#[]⟩ : ByteArray)]) w_ o4470 1411 ∧ Ft (GTab Tryd.prog "internal/strconv.uint64pow10" .u64 Lib.pow10Tab) w_ o4470 0 ∧ tidewrackref27_Parse_j10 p0 x3377 x4429 x4430 lp4459 x4471 = some r) ?_ ?_
                  rotate_left
                  · rintro a w4472 ⟨o4470, x4471, hk, hs, f1111, f3381, f40, f4398, f5, fg4, H⟩
                    unfold tidewrackref27_Parse_j10 at H
                    cases b4473 : x4471
                    · rw [b4473] at hk H
                      replace H := bifF H
                      refine x_if hk (b := false) rfl ?_
                      refine (show Code.wpIn _ _ _ _ _ _ _ from ?_)
                      refine x_mid (fun a_ w_ => ∃ o4481 : Nat → Nat, ∃ x4482 : Bool, Kn 184 a_ [(0, .string p0), (2, .pointer (some ⟨bx4, 0, none⟩)), (4, .int .i64 x3377), (5, .pointer (some ⟨bx39, 0, none⟩)), (11, .slice A3378 (l3380).length c3379), (12, .int .i64 (IntKind.wrap .i64 (16 * x4429))), (14, .int .u8 (rdD 0 ([(bt p0 (IntKind.wrap .i64 (x3377 + 1))), (bt p0 (IntKind.wrap .i64 (x3377 + 2)))] : List Int) x4430)), (129, .slice (some ⟨bx4396, 0, none⟩) (([(bt p0 (IntKind.wrap .i64 (x3377 + 1))), (bt p0 (IntKind.wrap .i64 (x3377 + 2)))] : List Int)).length 2), (130, .int .i64 ((([(bt p0 (IntKind.wrap .i64 (x3377 + 1))), (bt p0 (IntKind.wrap .i64 (x3377 + 2)))] : List Int)).length : Int)), (131, .int .i64 x4430), (153, .bool x4482)] ∧ St [] w (fun _ => 0) w_ o4481 ∧ Ft (Own (encInt .i64) 3 (.slice A1108 (l1110).length c1109) l1110) w_ o4481 1417 ∧ Ft (Own (encInt .u8) 5 (.slice A3378 (l3380).length c3379) l3380) w_ o4481 1419 ∧ Ft (Bx bx39 30 [.string (ByteArray.extract p0 0 (Int.toNat x32)), .slice A1108 (l1110).length c1109, .string (⟨#[]⟩ : ByteArray)]) w_ o4481 1418 ∧ Ft (Own (encInt .u8) 5 (.slice (some ⟨bx4396, 0, none⟩) (([(bt p0 (IntKind.wrap .i64 (x3377 + 1))), (bt p0 (IntKind.wrap .i64 (x3377 + 2)))] : List Int)).length 2) ([(bt p0 (IntKind.wrap .i64 (x3377 + 1))), (bt p0 (IntKind.wrap .i64 (x3377 + 2)))] : List Int)) w_ o4481 1420 ∧ Ft (Bx bx4 30 [.string (⟨#[]⟩ : ByteArray), .slice none 0 0, .string (⟨#[]⟩ : ByteArray)]) w_ o4481 1416 ∧ Ft (GTab Tryd.prog "internal/strconv.uint64pow10" .u64 Lib.pow10Tab) w_ o4481 0 ∧ tidewrackref27_Parse_j11 p0 x3377 x4429 x4430 lp4459 x4482 = some r) ?_ ?_
                      rotate_left
                      · rintro a w4483 ⟨o4481, x4482, hk, hs, f1111, f3381, f40, f4398, f5, fg4, H⟩
                        unfold tidewrackref27_Parse_j11 at H
                        cases b4484 : x4482
                        · rw [b4484] at hk H
                          replace H := bifF H
                          refine x_if hk (b := false) rfl ?_
                          refine (show Code.wpIn _ _ _ _ _ _ _ from ?_)
                          refine wpIn_skip ?_
                          refine blk_n ?_
                          refine then_n ?_
                          refine wpIn_region_lit ?_
                          refine x_run tab hk (k := 2) (lv := []) (ks := [0, 2, 4, 5, 11, 12, 129, 130, 131]) (e' := [(0, .string p0), (2, .pointer (some ⟨bx4, 0, none⟩)), (4, .int .i64 x3377), (5, .pointer (some ⟨bx39, 0, none⟩)), (11, .slice A3378 (l3380).length c3379), (12, .int .i64 (IntKind.wrap .i64 (16 * x4429))), (129, .slice (some ⟨bx4396, 0, none⟩) (([(bt p0 (IntKind.wrap .i64 (x3377 + 1))), (bt p0 (IntKind.wrap .i64 (x3377 + 2)))] : List Int)).length 2), (130, .int .i64 ((([(bt p0 (IntKind.wrap .i64 (x3377 + 1))), (bt p0 (IntKind.wrap .i64 (x3377 + 2)))] : List Int)).length : Int)), (131, .int .i64 (IntKind.wrap .i64 (x4430 + 1)))]) rfl trivial fun a hk => ?_
                          refine wpListIn_nil ?_
                          refine then_n ?_
                          exact ⟨k4458, Nat.le_refl _, (fun b_ => (fun l_ => if l_ = 1416 then 1396 else if l_ = 1417 then 1397 else if l_ = 1418 then 1398 else if l_ = 1419 then 1399 else if l_ = 1420 then 1400 else l_) (o4481 b_)), (IntKind.wrap .i64 (16 * x4429)), (IntKind.wrap .i64 (x4430 + 1)), (by exact Kn.pick (ks := [0, 2, 4, 5, 11, 12, 129, 130, 131]) hk rfl), (hs.relab0 (fun l_ => if l_ = 1416 then 1396 else if l_ = 1417 then 1397 else if l_ = 1418 then 1398 else if l_ = 1419 then 1399 else if l_ = 1420 then 1400 else l_) rfl), (f1111.relab (fun l_ => if l_ = 1416 then 1396 else if l_ = 1417 then 1397 else if l_ = 1418 then 1398 else if l_ = 1419 then 1399 else if l_ = 1420 then 1400 else l_) rfl), (f3381.relab (fun l_ => if l_ = 1416 then 1396 else if l_ = 1417 then 1397 else if l_ = 1418 then 1398 else if l_ = 1419 then 1399 else if l_ = 1420 then 1400 else l_) rfl), (f40.relab (fun l_ => if l_ = 1416 then 1396 else if l_ = 1417 then 1397 else if l_ = 1418 then 1398 else if l_ = 1419 then 1399 else if l_ = 1420 then 1400 else l_) rfl), (f4398.relab (fun l_ => if l_ = 1416 then 1396 else if l_ = 1417 then 1397 else if l_ = 1418 then 1398 else if l_ = 1419 then 1399 else if l_ = 1420 then 1400 else l_) rfl), (f5.relab (fun l_ => if l_ = 1416 then 1396 else if l_ = 1417 then 1397 else if l_ = 1418 then 1398 else if l_ = 1419 then 1399 else if l_ = 1420 then 1400 else l_) rfl), (fg4.relab (fun l_ => if l_ = 1416 then 1396 else if l_ = 1417 then 1397 else if l_ = 1418 then 1398 else if l_ = 1419 then 1399 else if l_ = 1420 then 1400 else l_) rfl), (hlp4460 ▸ H)⟩
                        · rw [b4484] at hk H
                          replace H := bifT H
                          refine x_if hk (b := true) rfl ?_
                          refine (show Code.wpIn _ _ _ _ _ _ _ from ?_)
                          refine wpIn_region_lit ?_
                          refine x_run tab hk (k := 6) (lv := []) (ks := [0, 2, 4, 5, 11, 12, 129, 130, 131]) (e' := [(0, .string p0), (2, .pointer (some ⟨bx4, 0, none⟩)), (4, .int .i64 x3377), (5, .pointer (some ⟨bx39, 0, none⟩)), (11, .slice A3378 (l3380).length c3379), (12, .int .i64 (IntKind.wrap .i64 ((IntKind.wrap .i64 (16 * x4429)) + (IntKind.wrap .i64 ((IntKind.wrap .i64 (rdD 0 ([(bt p0 (IntKind.wrap .i64 (x3377 + 1))), (bt p0 (IntKind.wrap .i64 (x3377 + 2)))] : List Int) x4430)) - 55))))), (129, .slice (some ⟨bx4396, 0, none⟩) (([(bt p0 (IntKind.wrap .i64 (x3377 + 1))), (bt p0 (IntKind.wrap .i64 (x3377 + 2)))] : List Int)).length 2), (130, .int .i64 ((([(bt p0 (IntKind.wrap .i64 (x3377 + 1))), (bt p0 (IntKind.wrap .i64 (x3377 + 2)))] : List Int)).length : Int)), (131, .int .i64 x4430)]) rfl trivial fun a hk => ?_
                          refine wpListIn_nil ?_
                          refine blk_n ?_
                          refine then_n ?_
                          refine wpIn_region_lit ?_
                          refine x_run tab hk (k := 2) (lv := []) (ks := [0, 2, 4, 5, 11, 12, 129, 130, 131]) (e' := [(0, .string p0), (2, .pointer (some ⟨bx4, 0, none⟩)), (4, .int .i64 x3377), (5, .pointer (some ⟨bx39, 0, none⟩)), (11, .slice A3378 (l3380).length c3379), (12, .int .i64 (IntKind.wrap .i64 ((IntKind.wrap .i64 (16 * x4429)) + (IntKind.wrap .i64 ((IntKind.wrap .i64 (rdD 0 ([(bt p0 (IntKind.wrap .i64 (x3377 + 1))), (bt p0 (IntKind.wrap .i64 (x3377 + 2)))] : List Int) x4430)) - 55))))), (129, .slice (some ⟨bx4396, 0, none⟩) (([(bt p0 (IntKind.wrap .i64 (x3377 + 1))), (bt p0 (IntKind.wrap .i64 (x3377 + 2)))] : List Int)).length 2), (130, .int .i64 ((([(bt p0 (IntKind.wrap .i64 (x3377 + 1))), (bt p0 (IntKind.wrap .i64 (x3377 + 2)))] : List Int)).length : Int)), (131, .int .i64 (IntKind.wrap .i64 (x4430 + 1)))]) rfl trivial fun a hk => ?_
                          refine wpListIn_nil ?_
                          refine then_n ?_
                          exact ⟨k4458, Nat.le_refl _, (fun b_ => (fun l_ => if l_ = 1416 then 1396 else if l_ = 1417 then 1397 else if l_ = 1418 then 1398 else if l_ = 1419 then 1399 else if l_ = 1420 then 1400 else l_) (o4481 b_)), (IntKind.wrap .i64 ((IntKind.wrap .i64 (16 * x4429)) + (IntKind.wrap .i64 ((IntKind.wrap .i64 (rdD 0 ([(bt p0 (IntKind.wrap .i64 (x3377 + 1))), (bt p0 (IntKind.wrap .i64 (x3377 + 2)))] : List Int) x4430)) - 55)))), (IntKind.wrap .i64 (x4430 + 1)), (by exact Kn.pick (ks := [0, 2, 4, 5, 11, 12, 129, 130, 131]) hk rfl), (hs.relab0 (fun l_ => if l_ = 1416 then 1396 else if l_ = 1417 then 1397 else if l_ = 1418 then 1398 else if l_ = 1419 then 1399 else if l_ = 1420 then 1400 else l_) rfl), (f1111.relab (fun l_ => if l_ = 1416 then 1396 else if l_ = 1417 then 1397 else if l_ = 1418 then 1398 else if l_ = 1419 then 1399 else if l_ = 1420 then 1400 else l_) rfl), (f3381.relab (fun l_ => if l_ = 1416 then 1396 else if l_ = 1417 then 1397 else if l_ = 1418 then 1398 else if l_ = 1419 then 1399 else if l_ = 1420 then 1400 else l_) rfl), (f40.relab (fun l_ => if l_ = 1416 then 1396 else if l_ = 1417 then 1397 else if l_ = 1418 then 1398 else if l_ = 1419 then 1399 else if l_ = 1420 then 1400 else l_) rfl), (f4398.relab (fun l_ => if l_ = 1416 then 1396 else if l_ = 1417 then 1397 else if l_ = 1418 then 1398 else if l_ = 1419 then 1399 else if l_ = 1420 then 1400 else l_) rfl), (f5.relab (fun l_ => if l_ = 1416 then 1396 else if l_ = 1417 then 1397 else if l_ = 1418 then 1398 else if l_ = 1419 then 1399 else if l_ = 1420 then 1400 else l_) rfl), (fg4.relab (fun l_ => if l_ = 1416 then 1396 else if l_ = 1417 then 1397 else if l_ = 1418 then 1398 else if l_ = 1419 then 1399 else if l_ = 1420 then 1400 else l_) rfl), (hlp4460 ▸ H)⟩
                      refine wpIn_region_lit ?_
                      refine x_run tab hk (k := 3) (lv := []) (ks := [0, 2, 4, 5, 11, 12, 14, 129, 130, 131, 150]) (e' := [(0, .string p0), (2, .pointer (some ⟨bx4, 0, none⟩)), (4, .int .i64 x3377), (5, .pointer (some ⟨bx39, 0, none⟩)), (11, .slice A3378 (l3380).length c3379), (12, .int .i64 (IntKind.wrap .i64 (16 * x4429))), (14, .int .u8 (rdD 0 ([(bt p0 (IntKind.wrap .i64 (x3377 + 1))), (bt p0 (IntKind.wrap .i64 (x3377 + 2)))] : List Int) x4430)), (129, .slice (some ⟨bx4396, 0, none⟩) (([(bt p0 (IntKind.wrap .i64 (x3377 + 1))), (bt p0 (IntKind.wrap .i64 (x3377 + 2)))] : List Int)).length 2), (130, .int .i64 ((([(bt p0 (IntKind.wrap .i64 (x3377 + 1))), (bt p0 (IntKind.wrap .i64 (x3377 + 2)))] : List Int)).length : Int)), (131, .int .i64 x4430), (150, .bool (decide ((rdD 0 ([(bt p0 (IntKind.wrap .i64 (x3377 + 1))), (bt p0 (IntKind.wrap .i64 (x3377 + 2)))] : List Int) x4430) ≥ (65 : Int))))]) rfl trivial fun a hk => ?_
                      cases b4485 : (decide ((rdD 0 ([(bt p0 (IntKind.wrap .i64 (x3377 + 1))), (bt p0 (IntKind.wrap .i64 (x3377 + 2)))] : List Int) x4430) ≥ (65 : Int)))
                      · rw [b4485] at hk H
                        replace H := bifF H
                        refine x_run tab hk (k := 3) (lv := []) (ks := [0, 2, 4, 5, 11, 12, 14, 129, 130, 131, 153]) (e' := [(0, .string p0), (2, .pointer (some ⟨bx4, 0, none⟩)), (4, .int .i64 x3377), (5, .pointer (some ⟨bx39, 0, none⟩)), (11, .slice A3378 (l3380).length c3379), (12, .int .i64 (IntKind.wrap .i64 (16 * x4429))), (14, .int .u8 (rdD 0 ([(bt p0 (IntKind.wrap .i64 (x3377 + 1))), (bt p0 (IntKind.wrap .i64 (x3377 + 2)))] : List Int) x4430)), (129, .slice (some ⟨bx4396, 0, none⟩) (([(bt p0 (IntKind.wrap .i64 (x3377 + 1))), (bt p0 (IntKind.wrap .i64 (x3377 + 2)))] : List Int)).length 2), (130, .int .i64 ((([(bt p0 (IntKind.wrap .i64 (x3377 + 1))), (bt p0 (IntKind.wrap .i64 (x3377 + 2)))] : List Int)).length : Int)), (131, .int .i64 x4430), (153, .bool false)]) rfl trivial fun a hk => ?_
                        refine wpListIn_nil ?_
                        refine then_n ?_
                        exact ⟨(fun b_ => (fun l_ => if l_ = 1411 then 1416 else if l_ = 1412 then 1417 else if l_ = 1413 then 1418 else if l_ = 1414 then 1419 else if l_ = 1415 then 1420 else l_) (o4470 b_)), false, (by exact Kn.pick (ks := [0, 2, 4, 5, 11, 12, 14, 129, 130, 131, 153]) hk rfl), (hs.relab0 (fun l_ => if l_ = 1411 then 1416 else if l_ = 1412 then 1417 else if l_ = 1413 then 1418 else if l_ = 1414 then 1419 else if l_ = 1415 then 1420 else l_) rfl), (f1111.relab (fun l_ => if l_ = 1411 then 1416 else if l_ = 1412 then 1417 else if l_ = 1413 then 1418 else if l_ = 1414 then 1419 else if l_ = 1415 then 1420 else l_) rfl), (f3381.relab (fun l_ => if l_ = 1411 then 1416 else if l_ = 1412 then 1417 else if l_ = 1413 then 1418 else if l_ = 1414 then 1419 else if l_ = 1415 then 1420 else l_) rfl), (f40.relab (fun l_ => if l_ = 1411 then 1416 else if l_ = 1412 then 1417 else if l_ = 1413 then 1418 else if l_ = 1414 then 1419 else if l_ = 1415 then 1420 else l_) rfl), (f4398.relab (fun l_ => if l_ = 1411 then 1416 else if l_ = 1412 then 1417 else if l_ = 1413 then 1418 else if l_ = 1414 then 1419 else if l_ = 1415 then 1420 else l_) rfl), (f5.relab (fun l_ => if l_ = 1411 then 1416 else if l_ = 1412 then 1417 else if l_ = 1413 then 1418 else if l_ = 1414 then 1419 else if l_ = 1415 then 1420 else l_) rfl), (fg4.relab (fun l_ => if l_ = 1411 then 1416 else if l_ = 1412 then 1417 else if l_ = 1413 then 1418 else if l_ = 1414 then 1419 else if l_ = 1415 then 1420 else l_) rfl), H⟩
                      · rw [b4485] at hk H
                        replace H := bifT H
                        refine x_run tab hk (k := 3) (lv := []) (ks := [0, 2, 4, 5, 11, 12, 14, 129, 130, 131, 153]) (e' := [(0, .string p0), (2, .pointer (some ⟨bx4, 0, none⟩)), (4, .int .i64 x3377), (5, .pointer (some ⟨bx39, 0, none⟩)), (11, .slice A3378 (l3380).length c3379), (12, .int .i64 (IntKind.wrap .i64 (16 * x4429))), (14, .int .u8 (rdD 0 ([(bt p0 (IntKind.wrap .i64 (x3377 + 1))), (bt p0 (IntKind.wrap .i64 (x3377 + 2)))] : List Int) x4430)), (129, .slice (some ⟨bx4396, 0, none⟩) (([(bt p0 (IntKind.wrap .i64 (x3377 + 1))), (bt p0 (IntKind.wrap .i64 (x3377 + 2)))] : List Int)).length 2), (130, .int .i64 ((([(bt p0 (IntKind.wrap .i64 (x3377 + 1))), (bt p0 (IntKind.wrap .i64 (x3377 + 2)))] : List Int)).length : Int)), (131, .int .i64 x4430), (153, .bool (decide ((rdD 0 ([(bt p0 (IntKind.wrap .i64 (x3377 + 1))), (bt p0 (IntKind.wrap .i64 (x3377 + 2)))] : List Int) x4430) ≤ (70 : Int))))]) rfl trivial fun a hk => ?_
                        refine wpListIn_nil ?_
                        refine then_n ?_
                        exact ⟨(fun b_ => (fun l_ => if l_ = 1411 then 1416 else if l_ = 1412 then 1417 else if l_ = 1413 then 1418 else if l_ = 1414 then 1419 else if l_ = 1415 then 1420 else l_) (o4470 b_)), (decide ((rdD 0 ([(bt p0 (IntKind.wrap .i64 (x3377 + 1))), (bt p0 (IntKind.wrap .i64 (x3377 + 2)))] : List Int) x4430) ≤ (70 : Int))), (by exact Kn.pick (ks := [0, 2, 4, 5, 11, 12, 14, 129, 130, 131, 153]) hk rfl), (hs.relab0 (fun l_ => if l_ = 1411 then 1416 else if l_ = 1412 then 1417 else if l_ = 1413 then 1418 else if l_ = 1414 then 1419 else if l_ = 1415 then 1420 else l_) rfl), (f1111.relab (fun l_ => if l_ = 1411 then 1416 else if l_ = 1412 then 1417 else if l_ = 1413 then 1418 else if l_ = 1414 then 1419 else if l_ = 1415 then 1420 else l_) rfl), (f3381.relab (fun l_ => if l_ = 1411 then 1416 else if l_ = 1412 then 1417 else if l_ = 1413 then 1418 else if l_ = 1414 then 1419 else if l_ = 1415 then 1420 else l_) rfl), (f40.relab (fun l_ => if l_ = 1411 then 1416 else if l_ = 1412 then 1417 else if l_ = 1413 then 1418 else if l_ = 1414 then 1419 else if l_ = 1415 then 1420 else l_) rfl), (f4398.relab (fun l_ => if l_ = 1411 then 1416 else if l_ = 1412 then 1417 else if l_ = 1413 then 1418 else if l_ = 1414 then 1419 else if l_ = 1415 then 1420 else l_) rfl), (f5.relab (fun l_ => if l_ = 1411 then 1416 else if l_ = 1412 then 1417 else if l_ = 1413 then 1418 else if l_ = 1414 then 1419 else if l_ = 1415 then 1420 else l_) rfl), (fg4.relab (fun l_ => if l_ = 1411 then 1416 else if l_ = 1412 then 1417 else if l_ = 1413 then 1418 else if l_ = 1414 then 1419 else if l_ = 1415 then 1420 else l_) rfl), H⟩
                    · rw [b4473] at hk H
                      replace H := bifT H
                      refine x_if hk (b := true) rfl ?_
                      refine (show Code.wpIn _ _ _ _ _ _ _ from ?_)
                      refine wpIn_region_lit ?_
                      refine x_run tab hk (k := 6) (lv := []) (ks := [0, 2, 4, 5, 11, 12, 129, 130, 131]) (e' := [(0, .string p0), (2, .pointer (some ⟨bx4, 0, none⟩)), (4, .int .i64 x3377), (5, .pointer (some ⟨bx39, 0, none⟩)), (11, .slice A3378 (l3380).length c3379), (12, .int .i64 (IntKind.wrap .i64 ((IntKind.wrap .i64 (16 * x4429)) + (IntKind.wrap .i64 ((IntKind.wrap .i64 (rdD 0 ([(bt p0 (IntKind.wrap .i64 (x3377 + 1))), (bt p0 (IntKind.wrap .i64 (x3377 + 2)))] : List Int) x4430)) - 48))))), (129, .slice (some ⟨bx4396, 0, none⟩) (([(bt p0 (IntKind.wrap .i64 (x3377 + 1))), (bt p0 (IntKind.wrap .i64 (x3377 + 2)))] : List Int)).length 2), (130, .int .i64 ((([(bt p0 (IntKind.wrap .i64 (x3377 + 1))), (bt p0 (IntKind.wrap .i64 (x3377 + 2)))] : List Int)).length : Int)), (131, .int .i64 x4430)]) rfl trivial fun a hk => ?_
                      refine wpListIn_nil ?_
                      refine blk_n ?_
                      refine then_n ?_
                      refine wpIn_region_lit ?_
                      refine x_run tab hk (k := 2) (lv := []) (ks := [0, 2, 4, 5, 11, 12, 129, 130, 131]) (e' := [(0, .string p0), (2, .pointer (some ⟨bx4, 0, none⟩)), (4, .int .i64 x3377), (5, .pointer (some ⟨bx39, 0, none⟩)), (11, .slice A3378 (l3380).length c3379), (12, .int .i64 (IntKind.wrap .i64 ((IntKind.wrap .i64 (16 * x4429)) + (IntKind.wrap .i64 ((IntKind.wrap .i64 (rdD 0 ([(bt p0 (IntKind.wrap .i64 (x3377 + 1))), (bt p0 (IntKind.wrap .i64 (x3377 + 2)))] : List Int) x4430)) - 48))))), (129, .slice (some ⟨bx4396, 0, none⟩) (([(bt p0 (IntKind.wrap .i64 (x3377 + 1))), (bt p0 (IntKind.wrap .i64 (x3377 + 2)))] : List Int)).length 2), (130, .int .i64 ((([(bt p0 (IntKind.wrap .i64 (x3377 + 1))), (bt p0 (IntKind.wrap .i64 (x3377 + 2)))] : List Int)).length : Int)), (131, .int .i64 (IntKind.wrap .i64 (x4430 + 1)))]) rfl trivial fun a hk => ?_
                      refine wpListIn_nil ?_
                      refine then_n ?_
                      exact ⟨k4458, Nat.le_refl _, (fun b_ => (fun l_ => if l_ = 1411 then 1396 else if l_ = 1412 then 1397 else if l_ = 1413 then 1398 else if l_ = 1414 then 1399 else if l_ = 1415 then 1400 else l_) (o4470 b_)), (IntKind.wrap .i64 ((IntKind.wrap .i64 (16 * x4429)) + (IntKind.wrap .i64 ((IntKind.wrap .i64 (rdD 0 ([(bt p0 (IntKind.wrap .i64 (x3377 + 1))), (bt p0 (IntKind.wrap .i64 (x3377 + 2)))] : List Int) x4430)) - 48)))), (IntKind.wrap .i64 (x4430 + 1)), (by exact Kn.pick (ks := [0, 2, 4, 5, 11, 12, 129, 130, 131]) hk rfl), (hs.relab0 (fun l_ => if l_ = 1411 then 1396 else if l_ = 1412 then 1397 else if l_ = 1413 then 1398 else if l_ = 1414 then 1399 else if l_ = 1415 then 1400 else l_) rfl), (f1111.relab (fun l_ => if l_ = 1411 then 1396 else if l_ = 1412 then 1397 else if l_ = 1413 then 1398 else if l_ = 1414 then 1399 else if l_ = 1415 then 1400 else l_) rfl), (f3381.relab (fun l_ => if l_ = 1411 then 1396 else if l_ = 1412 then 1397 else if l_ = 1413 then 1398 else if l_ = 1414 then 1399 else if l_ = 1415 then 1400 else l_) rfl), (f40.relab (fun l_ => if l_ = 1411 then 1396 else if l_ = 1412 then 1397 else if l_ = 1413 then 1398 else if l_ = 1414 then 1399 else if l_ = 1415 then 1400 else l_) rfl), (f4398.relab (fun l_ => if l_ = 1411 then 1396 else if l_ = 1412 then 1397 else if l_ = 1413 then 1398 else if l_ = 1414 then 1399 else if l_ = 1415 then 1400 else l_) rfl), (f5.relab (fun l_ => if l_ = 1411 then 1396 else if l_ = 1412 then 1397 else if l_ = 1413 then 1398 else if l_ = 1414 then 1399 else if l_ = 1415 then 1400 else l_) rfl), (fg4.relab (fun l_ => if l_ = 1411 then 1396 else if l_ = 1412 then 1397 else if l_ = 1413 then 1398 else if l_ = 1414 then 1399 else if l_ = 1415 then 1400 else l_) rfl), (hlp4460 ▸ H)⟩
                  refine wpIn_region_lit ?_
                  refine x_run tab hk (k := 3) (lv := []) (ks := [0, 2, 4, 5, 11, 12, 14, 129, 130, 131, 139]) (e' := [(0, .string p0), (2, .pointer (some ⟨bx4, 0, none⟩)), (4, .int .i64 x3377), (5, .pointer (some ⟨bx39, 0, none⟩)), (11, .slice A3378 (l3380).length c3379), (12, .int .i64 (IntKind.wrap .i64 (16 * x4429))), (14, .int .u8 (rdD 0 ([(bt p0 (IntKind.wrap .i64 (x3377 + 1))), (bt p0 (IntKind.wrap .i64 (x3377 + 2)))] : List Int) x4430)), (129, .slice (some ⟨bx4396, 0, none⟩) (([(bt p0 (IntKind.wrap .i64 (x3377 + 1))), (bt p0 (IntKind.wrap .i64 (x3377 + 2)))] : List Int)).length 2), (130, .int .i64 ((([(bt p0 (IntKind.wrap .i64 (x3377 + 1))), (bt p0 (IntKind.wrap .i64 (x3377 + 2)))] : List Int)).length : Int)), (131, .int .i64 x4430), (139, .bool (decide ((rdD 0 ([(bt p0 (IntKind.wrap .i64 (x3377 + 1))), (bt p0 (IntKind.wrap .i64 (x3377 + 2)))] : List Int) x4430) ≥ (48 : Int))))]) rfl trivial fun a hk => ?_
                  cases b4486 : (decide ((rdD 0 ([(bt p0 (IntKind.wrap .i64 (x3377 + 1))), (bt p0 (IntKind.wrap .i64 (x3377 + 2)))] : List Int) x4430) ≥ (48 : Int)))
                  · rw [b4486] at hk H
                    replace H := bifF H
                    refine x_run tab hk (k := 3) (lv := []) (ks := [0, 2, 4, 5, 11, 12, 14, 129, 130, 131, 142]) (e' := [(0, .string p0), (2, .pointer (some ⟨bx4, 0, none⟩)), (4, .int .i64 x3377), (5, .pointer (some ⟨bx39, 0, none⟩)), (11, .slice A3378 (l3380).length c3379), (12, .int .i64 (IntKind.wrap .i64 (16 * x4429))), (14, .int .u8 (rdD 0 ([(bt p0 (IntKind.wrap .i64 (x3377 + 1))), (bt p0 (IntKind.wrap .i64 (x3377 + 2)))] : List Int) x4430)), (129, .slice (some ⟨bx4396, 0, none⟩) (([(bt p0 (IntKind.wrap .i64 (x3377 + 1))), (bt p0 (IntKind.wrap .i64 (x3377 + 2)))] : List Int)).length 2), (130, .int .i64 ((([(bt p0 (IntKind.wrap .i64 (x3377 + 1))), (bt p0 (IntKind.wrap .i64 (x3377 + 2)))] : List Int)).length : Int)), (131, .int .i64 x4430), (142, .bool false)]) rfl trivial fun a hk => ?_
                    refine wpListIn_nil ?_
                    refine then_n ?_
                    exact ⟨(fun b_ => (fun l_ => if l_ = 1396 then 1411 else if l_ = 1397 then 1412 else if l_ = 1398 then 1413 else if l_ = 1399 then 1414 else if l_ = 1400 then 1415 else l_) (o4428 b_)), false, (by exact Kn.pick (ks := [0, 2, 4, 5, 11, 12, 14, 129, 130, 131, 142]) hk rfl), (hs.relab0 (fun l_ => if l_ = 1396 then 1411 else if l_ = 1397 then 1412 else if l_ = 1398 then 1413 else if l_ = 1399 then 1414 else if l_ = 1400 then 1415 else l_) rfl), (f1111.relab (fun l_ => if l_ = 1396 then 1411 else if l_ = 1397 then 1412 else if l_ = 1398 then 1413 else if l_ = 1399 then 1414 else if l_ = 1400 then 1415 else l_) rfl), (f3381.relab (fun l_ => if l_ = 1396 then 1411 else if l_ = 1397 then 1412 else if l_ = 1398 then 1413 else if l_ = 1399 then 1414 else if l_ = 1400 then 1415 else l_) rfl), (f40.relab (fun l_ => if l_ = 1396 then 1411 else if l_ = 1397 then 1412 else if l_ = 1398 then 1413 else if l_ = 1399 then 1414 else if l_ = 1400 then 1415 else l_) rfl), (f4398.relab (fun l_ => if l_ = 1396 then 1411 else if l_ = 1397 then 1412 else if l_ = 1398 then 1413 else if l_ = 1399 then 1414 else if l_ = 1400 then 1415 else l_) rfl), (f5.relab (fun l_ => if l_ = 1396 then 1411 else if l_ = 1397 then 1412 else if l_ = 1398 then 1413 else if l_ = 1399 then 1414 else if l_ = 1400 then 1415 else l_) rfl), (fg4.relab (fun l_ => if l_ = 1396 then 1411 else if l_ = 1397 then 1412 else if l_ = 1398 then 1413 else if l_ = 1399 then 1414 else if l_ = 1400 then 1415 else l_) rfl), H⟩
                  · rw [b4486] at hk H
                    replace H := bifT H
                    refine x_run tab hk (k := 3) (lv := []) (ks := [0, 2, 4, 5, 11, 12, 14, 129, 130, 131, 142]) (e' := [(0, .string p0), (2, .pointer (some ⟨bx4, 0, none⟩)), (4, .int .i64 x3377), (5, .pointer (some ⟨bx39, 0, none⟩)), (11, .slice A3378 (l3380).length c3379), (12, .int .i64 (IntKind.wrap .i64 (16 * x4429))), (14, .int .u8 (rdD 0 ([(bt p0 (IntKind.wrap .i64 (x3377 + 1))), (bt p0 (IntKind.wrap .i64 (x3377 + 2)))] : List Int) x4430)), (129, .slice (some ⟨bx4396, 0, none⟩) (([(bt p0 (IntKind.wrap .i64 (x3377 + 1))), (bt p0 (IntKind.wrap .i64 (x3377 + 2)))] : List Int)).length 2), (130, .int .i64 ((([(bt p0 (IntKind.wrap .i64 (x3377 + 1))), (bt p0 (IntKind.wrap .i64 (x3377 + 2)))] : List Int)).length : Int)), (131, .int .i64 x4430), (142, .bool (decide ((rdD 0 ([(bt p0 (IntKind.wrap .i64 (x3377 + 1))), (bt p0 (IntKind.wrap .i64 (x3377 + 2)))] : List Int) x4430) ≤ (57 : Int))))]) rfl trivial fun a hk => ?_
                    refine wpListIn_nil ?_
                    refine then_n ?_
                    exact ⟨(fun b_ => (fun l_ => if l_ = 1396 then 1411 else if l_ = 1397 then 1412 else if l_ = 1398 then 1413 else if l_ = 1399 then 1414 else if l_ = 1400 then 1415 else l_) (o4428 b_)), (decide ((rdD 0 ([(bt p0 (IntKind.wrap .i64 (x3377 + 1))), (bt p0 (IntKind.wrap .i64 (x3377 + 2)))] : List Int) x4430) ≤ (57 : Int))), (by exact Kn.pick (ks := [0, 2, 4, 5, 11, 12, 14, 129, 130, 131, 142]) hk rfl), (hs.relab0 (fun l_ => if l_ = 1396 then 1411 else if l_ = 1397 then 1412 else if l_ = 1398 then 1413 else if l_ = 1399 then 1414 else if l_ = 1400 then 1415 else l_) rfl), (f1111.relab (fun l_ => if l_ = 1396 then 1411 else if l_ = 1397 then 1412 else if l_ = 1398 then 1413 else if l_ = 1399 then 1414 else if l_ = 1400 then 1415 else l_) rfl), (f3381.relab (fun l_ => if l_ = 1396 then 1411 else if l_ = 1397 then 1412 else if l_ = 1398 then 1413 else if l_ = 1399 then 1414 else if l_ = 1400 then 1415 else l_) rfl), (f40.relab (fun l_ => if l_ = 1396 then 1411 else if l_ = 1397 then 1412 else if l_ = 1398 then 1413 else if l_ = 1399 then 1414 else if l_ = 1400 then 1415 else l_) rfl), (f4398.relab (fun l_ => if l_ = 1396 then 1411 else if l_ = 1397 then 1412 else if l_ = 1398 then 1413 else if l_ = 1399 then 1414 else if l_ = 1400 then 1415 else l_) rfl), (f5.relab (fun l_ => if l_ = 1396 then 1411 else if l_ = 1397 then 1412 else if l_ = 1398 then 1413 else if l_ = 1399 then 1414 else if l_ = 1400 then 1415 else l_) rfl), (fg4.relab (fun l_ => if l_ = 1396 then 1411 else if l_ = 1397 then 1412 else if l_ = 1398 then 1413 else if l_ = 1399 then 1414 else if l_ = 1400 then 1415 else l_) rfl), H⟩
            refine wpIn_region_lit ?_
            obtain ⟨q4487, H⟩ := ifS H
            refine x_run tab hk (k := 5) (lv := []) (ks := [0, 2, 4, 5, 11, 114]) (e' := [(0, .string p0), (2, .pointer (some ⟨bx4, 0, none⟩)), (4, .int .i64 x3377), (5, .pointer (some ⟨bx39, 0, none⟩)), (11, .slice A3378 (l3380).length c3379), (114, .bool ((bt p0 x3377) == (37 : Int)))]) rfl ⟨q4487, trivial⟩ fun a hk => ?_
            cases b4488 : ((bt p0 x3377) == (37 : Int))
            · rw [b4488] at hk H
              replace H := bifF H
              refine x_run tab hk (k := 6) (lv := []) (ks := [0, 2, 4, 5, 11, 120]) (e' := [(0, .string p0), (2, .pointer (some ⟨bx4, 0, none⟩)), (4, .int .i64 x3377), (5, .pointer (some ⟨bx39, 0, none⟩)), (11, .slice A3378 (l3380).length c3379), (120, .bool false)]) rfl trivial fun a hk => ?_
              refine wpListIn_nil ?_
              refine then_n ?_
              exact ⟨(fun b_ => (fun l_ => if l_ = 1027 then 1326 else if l_ = 1028 then 1327 else if l_ = 1029 then 1328 else if l_ = 1030 then 1329 else l_) (o3376 b_)), false, (by exact Kn.pick (ks := [0, 2, 4, 5, 11, 120]) hk rfl), (hs.relab0 (fun l_ => if l_ = 1027 then 1326 else if l_ = 1028 then 1327 else if l_ = 1029 then 1328 else if l_ = 1030 then 1329 else l_) rfl), (f1111.relab (fun l_ => if l_ = 1027 then 1326 else if l_ = 1028 then 1327 else if l_ = 1029 then 1328 else if l_ = 1030 then 1329 else l_) rfl), (f3381.relab (fun l_ => if l_ = 1027 then 1326 else if l_ = 1028 then 1327 else if l_ = 1029 then 1328 else if l_ = 1030 then 1329 else l_) rfl), (f40.relab (fun l_ => if l_ = 1027 then 1326 else if l_ = 1028 then 1327 else if l_ = 1029 then 1328 else if l_ = 1030 then 1329 else l_) rfl), (f5.relab (fun l_ => if l_ = 1027 then 1326 else if l_ = 1028 then 1327 else if l_ = 1029 then 1328 else if l_ = 1030 then 1329 else l_) rfl), (fg4.relab (fun l_ => if l_ = 1027 then 1326 else if l_ = 1028 then 1327 else if l_ = 1029 then 1328 else if l_ = 1030 then 1329 else l_) rfl), H⟩
            · rw [b4488] at hk H
              replace H := bifT H
              refine x_run tab hk (k := 6) (lv := []) (ks := [0, 2, 4, 5, 11, 120]) (e' := [(0, .string p0), (2, .pointer (some ⟨bx4, 0, none⟩)), (4, .int .i64 x3377), (5, .pointer (some ⟨bx39, 0, none⟩)), (11, .slice A3378 (l3380).length c3379), (120, .bool (decide ((IntKind.wrap .i64 (x3377 + 2)) < ((p0).size : Int))))]) rfl trivial fun a hk => ?_
              refine wpListIn_nil ?_
              refine then_n ?_
              exact ⟨(fun b_ => (fun l_ => if l_ = 1027 then 1326 else if l_ = 1028 then 1327 else if l_ = 1029 then 1328 else if l_ = 1030 then 1329 else l_) (o3376 b_)), (decide ((IntKind.wrap .i64 (x3377 + 2)) < ((p0).size : Int))), (by exact Kn.pick (ks := [0, 2, 4, 5, 11, 120]) hk rfl), (hs.relab0 (fun l_ => if l_ = 1027 then 1326 else if l_ = 1028 then 1327 else if l_ = 1029 then 1328 else if l_ = 1030 then 1329 else l_) rfl), (f1111.relab (fun l_ => if l_ = 1027 then 1326 else if l_ = 1028 then 1327 else if l_ = 1029 then 1328 else if l_ = 1030 then 1329 else l_) rfl), (f3381.relab (fun l_ => if l_ = 1027 then 1326 else if l_ = 1028 then 1327 else if l_ = 1029 then 1328 else if l_ = 1030 then 1329 else l_) rfl), (f40.relab (fun l_ => if l_ = 1027 then 1326 else if l_ = 1028 then 1327 else if l_ = 1029 then 1328 else if l_ = 1030 then 1329 else l_) rfl), (f5.relab (fun l_ => if l_ = 1027 then 1326 else if l_ = 1028 then 1327 else if l_ = 1029 then 1328 else if l_ = 1030 then 1329 else l_) rfl), (fg4.relab (fun l_ => if l_ = 1027 then 1326 else if l_ = 1028 then 1327 else if l_ = 1029 then 1328 else if l_ = 1030 then 1329 else l_) rfl), H⟩
        refine x_seq ?_
        refine wpIn_region_lit ?_
        refine x_run tab hk (k := 1) (lv := []) (ks := [0, 2, 4, 5, 6, 7, 8]) (e' := [(0, .string p0), (2, .pointer (some ⟨bx4, 0, none⟩)), (4, .int .i64 (IntKind.wrap .i64 (x32 + 1))), (5, .pointer (some ⟨bx39, 0, none⟩)), (6, .int .i64 t47.1), (7, .bool t47.2), (8, .int .i64 0)]) rfl trivial fun a hk => ?_
        refine wpListIn_nil ?_
        refine then_n ?_
        refine wpIn_block ?_
        refine x_loop (fun j_ a_ w_ => ∃ o4828 : Nat → Nat, ∃ x4829 : Int, ∃ A4830 : Option Addr, ∃ c4831 : Nat, ∃ l4832 : List Int, ∃ x4835 : Int, Kn 184 a_ [(0, .string p0), (2, .pointer (some ⟨bx4, 0, none⟩)), (4, .int .i64 x4829), (5, .pointer (some ⟨bx39, 0, none⟩)), (6, .int .i64 t47.1), (7, .bool t47.2), (8, .int .i64 x4835)] ∧ St [] w (fun _ => 0) w_ o4828 ∧ Ft (Bx bx39 30 [.string (ByteArray.extract p0 0 (Int.toNat x32)), .slice A4830 (l4832).length c4831, .string (⟨#[]⟩ : ByteArray)]) w_ o4828 1482 ∧ Ft (Own (encInt .i64) 3 (.slice A4830 (l4832).length c4831) l4832) w_ o4828 1481 ∧ Ft (Bx bx4 30 [.string (⟨#[]⟩ : ByteArray), .slice none 0 0, .string (⟨#[]⟩ : ByteArray)]) w_ o4828 1480 ∧ Ft (GTab Tryd.prog "internal/strconv.uint64pow10" .u64 Lib.pow10Tab) w_ o4828 0 ∧ (l4832).length ≤ c4831 ∧ tidewrackref27_Parse_l12 K p0 x32 t47 j_ x4829 l4832 x4835 = some r) (k := K) ⟨(fun b_ => (fun l_ => if l_ = 8 then 1480 else if l_ = 9 then 1482 else l_) (o70 b_)), (IntKind.wrap .i64 (x32 + 1)), none, 0, ([] : List Int), 0, (by exact Kn.pick (ks := [0, 2, 4, 5, 6, 7, 8]) hk rfl), (hs.relab0 (fun l_ => if l_ = 8 then 1480 else if l_ = 9 then 1482 else l_) rfl), (f40.relab (fun l_ => if l_ = 8 then 1480 else if l_ = 9 then 1482 else l_) rfl), (Ft.of_all (fun _ => Own.nil _ _ _) _ _ _), (f5.relab (fun l_ => if l_ = 8 then 1480 else if l_ = 9 then 1482 else l_) rfl), (fg4.relab (fun l_ => if l_ = 8 then 1480 else if l_ = 9 then 1482 else l_) rfl), (by simp), H⟩ (by rintro _ _ ⟨_, _, _, _, _, _, _, _, _, _, _, _, _, H_⟩; exact absurd (show (none : Option (T25 × Int)) = some r from H_) (by simp)) ?_
        rintro k5173 a w5172 ⟨o4828, x4829, A4830, c4831, l4832, x4835, hk, hs, f40, f4833, f5, fg4, hc4834, H⟩
        rw [tidewrackref27_Parse_l12] at H
        obtain ⟨lp5174, hlp5175⟩ : ∃ lp_, lp_ = tidewrackref27_Parse_l12 K p0 x32 t47 k5173 := ⟨_, rfl⟩
        rw [← hlp5175] at H
        refine x_seq ?_
        refine x_seq ?_
        refine wpIn_region_lit ?_
        refine x_run tab hk (k := 3) (lv := []) (ks := [0, 2, 4, 5, 6, 7, 8, 54]) (e' := [(0, .string p0), (2, .pointer (some ⟨bx4, 0, none⟩)), (4, .int .i64 x4829), (5, .pointer (some ⟨bx39, 0, none⟩)), (6, .int .i64 t47.1), (7, .bool t47.2), (8, .int .i64 x4835), (54, .bool (decide (x4835 < t47.1)))]) rfl trivial fun a hk => ?_
        refine wpListIn_nil ?_
        refine then_n ?_
        cases b5176 : (decide (x4835 < t47.1))
        · rw [b5176] at hk H
          replace H := bifF H
          refine x_if hk (b := false) rfl ?_
          refine (show Code.wpIn _ _ _ _ _ _ _ from ?_)
          refine wpIn_exit ?_
          refine then_x ?_
          refine then_x ?_
          refine blk_x ?_
          refine then_n ?_
          exact ⟨(fun b_ => (fun l_ => if l_ = 1480 then 227 else if l_ = 1481 then 228 else if l_ = 1482 then 229 else l_) (o4828 b_)), x4829, A4830, c4831, l4832, (by exact Kn.pick (ks := [0, 2, 4, 5]) hk rfl), (hs.relab0 (fun l_ => if l_ = 1480 then 227 else if l_ = 1481 then 228 else if l_ = 1482 then 229 else l_) rfl), (f4833.relab (fun l_ => if l_ = 1480 then 227 else if l_ = 1481 then 228 else if l_ = 1482 then 229 else l_) rfl), (f40.relab (fun l_ => if l_ = 1480 then 227 else if l_ = 1481 then 228 else if l_ = 1482 then 229 else l_) rfl), (f5.relab (fun l_ => if l_ = 1480 then 227 else if l_ = 1481 then 228 else if l_ = 1482 then 229 else l_) rfl), (fg4.relab (fun l_ => if l_ = 1480 then 227 else if l_ = 1481 then 228 else if l_ = 1482 then 229 else l_) rfl), hc4834, H⟩
        · rw [b5176] at hk H
          replace H := bifT H
          refine x_if hk (b := true) rfl ?_
          refine (show Code.wpIn _ _ _ _ _ _ _ from ?_)
          refine wpIn_skip ?_
          refine then_n ?_
          refine x_mid (fun a_ w_ => ∃ o5346 : Nat → Nat, ∃ x5347 : Int, ∃ A5348 : Option Addr, ∃ c5349 : Nat, ∃ l5350 : List Int, Kn 184 a_ [(0, .string p0), (2, .pointer (some ⟨bx4, 0, none⟩)), (4, .int .i64 x5347), (5, .pointer (some ⟨bx39, 0, none⟩)), (6, .int .i64 t47.1), (7, .bool t47.2), (8, .int .i64 x4835)] ∧ St [] w (fun _ => 0) w_ o5346 ∧ Ft (Bx bx39 30 [.string (ByteArray.extract p0 0 (Int.toNat x32)), .slice A5348 (l5350).length c5349, .string (⟨#[]⟩ : ByteArray)]) w_ o5346 1599 ∧ Ft (Bx bx4 30 [.string (⟨#[]⟩ : ByteArray), .slice none 0 0, .string (⟨#[]⟩ : ByteArray)]) w_ o5346 1597 ∧ Ft (Own (encInt .i64) 3 (.slice A5348 (l5350).length c5349) l5350) w_ o5346 1598 ∧ Ft (GTab Tryd.prog "internal/strconv.uint64pow10" .u64 Lib.pow10Tab) w_ o5346 0 ∧ (l5350).length ≤ c5349 ∧ tidewrackref27_Parse_j13 x4835 lp5174 x5347 l5350 = some r) ?_ ?_
          rotate_left
          · rintro a w5353 ⟨o5346, x5347, A5348, c5349, l5350, hk, hs, f40, f5, f5351, fg4, hc5352, H⟩
            unfold tidewrackref27_Parse_j13 at H
            refine wpIn_region_lit ?_
            refine x_run tab hk (k := 3) (lv := []) (ks := [0, 2, 4, 5, 6, 7, 8]) (e' := [(0, .string p0), (2, .pointer (some ⟨bx4, 0, none⟩)), (4, .int .i64 x5347), (5, .pointer (some ⟨bx39, 0, none⟩)), (6, .int .i64 t47.1), (7, .bool t47.2), (8, .int .i64 (IntKind.wrap .i64 (x4835 + 1)))]) rfl trivial fun a hk => ?_
            refine wpListIn_nil ?_
            refine then_n ?_
            exact ⟨k5173, Nat.le_refl _, (fun b_ => (fun l_ => if l_ = 1597 then 1480 else if l_ = 1598 then 1481 else if l_ = 1599 then 1482 else l_) (o5346 b_)), x5347, A5348, c5349, l5350, (IntKind.wrap .i64 (x4835 + 1)), (by exact Kn.pick (ks := [0, 2, 4, 5, 6, 7, 8]) hk rfl), (hs.relab0 (fun l_ => if l_ = 1597 then 1480 else if l_ = 1598 then 1481 else if l_ = 1599 then 1482 else l_) rfl), (f40.relab (fun l_ => if l_ = 1597 then 1480 else if l_ = 1598 then 1481 else if l_ = 1599 then 1482 else l_) rfl), (f5351.relab (fun l_ => if l_ = 1597 then 1480 else if l_ = 1598 then 1481 else if l_ = 1599 then 1482 else l_) rfl), (f5.relab (fun l_ => if l_ = 1597 then 1480 else if l_ = 1598 then 1481 else if l_ = 1599 then 1482 else l_) rfl), (fg4.relab (fun l_ => if l_ = 1597 then 1480 else if l_ = 1598 then 1481 else if l_ = 1599 then 1482 else l_) rfl), hc5352, (hlp5175 ▸ H)⟩
          refine wpIn_block ?_
          refine x_seq ?_
          refine wpIn_region_lit ?_
          refine x_run tab hk (k := 1) (lv := []) (ks := [0, 2, 4, 5, 6, 7, 8, 9]) (e' := [(0, .string p0), (2, .pointer (some ⟨bx4, 0, none⟩)), (4, .int .i64 x4829), (5, .pointer (some ⟨bx39, 0, none⟩)), (6, .int .i64 t47.1), (7, .bool t47.2), (8, .int .i64 x4835), (9, .int .i64 0)]) rfl trivial fun a hk => ?_
          refine wpListIn_nil ?_
          refine then_n ?_
          refine x_seq ?_
          refine wpIn_region_lit ?_
          refine x_run tab hk (k := 1) (lv := []) (ks := [0, 2, 4, 5, 6, 7, 8, 9, 10]) (e' := [(0, .string p0), (2, .pointer (some ⟨bx4, 0, none⟩)), (4, .int .i64 x4829), (5, .pointer (some ⟨bx39, 0, none⟩)), (6, .int .i64 t47.1), (7, .bool t47.2), (8, .int .i64 x4835), (9, .int .i64 0), (10, .int .i64 0)]) rfl trivial fun a hk => ?_
          refine wpListIn_nil ?_
          refine then_n ?_
          refine x_mid (fun a_ w_ => ∃ o5420 : Nat → Nat, ∃ x5421 : Int, ∃ x5422 : Int, Kn 184 a_ [(0, .string p0), (2, .pointer (some ⟨bx4, 0, none⟩)), (4, .int .i64 x5421), (5, .pointer (some ⟨bx39, 0, none⟩)), (6, .int .i64 t47.1), (7, .bool t47.2), (8, .int .i64 x4835), (9, .int .i64 x5422)] ∧ St [] w (fun _ => 0) w_ o5420 ∧ Ft (Bx bx39 30 [.string (ByteArray.extract p0 0 (Int.toNat x32)), .slice A4830 (l4832).length c4831, .string (⟨#[]⟩ : ByteArray)]) w_ o5420 1617 ∧ Ft (Own (encInt .i64) 3 (.slice A4830 (l4832).length c4831) l4832) w_ o5420 1616 ∧ Ft (Bx bx4 30 [.string (⟨#[]⟩ : ByteArray), .slice none 0 0, .string (⟨#[]⟩ : ByteArray)]) w_ o5420 1615 ∧ Ft (GTab Tryd.prog "internal/strconv.uint64pow10" .u64 Lib.pow10Tab) w_ o5420 0 ∧ tidewrackref27_Parse_j14 t47 l4832 x4835 lp5174 x5421 x5422 = some r) ?_ ?_
          rotate_left
          · rintro a w5423 ⟨o5420, x5421, x5422, hk, hs, f40, f4833, f5, fg4, H⟩
            unfold tidewrackref27_Parse_j14 at H
            refine x_seq ?_
            refine wpIn_region_lit ?_
            refine x_run tab hk (k := 3) (lv := [.slice A4830 (l4832).length c4831]) (ks := [0, 2, 4, 5, 6, 7, 8, 90, 91]) (e' := [(0, .string p0), (2, .pointer (some ⟨bx4, 0, none⟩)), (4, .int .i64 x5421), (5, .pointer (some ⟨bx39, 0, none⟩)), (6, .int .i64 t47.1), (7, .bool t47.2), (8, .int .i64 x4835), (90, .slice A4830 (l4832).length c4831), (91, .int .i64 x5422)]) rfl ⟨(load1 tab rfl ((Bx.cell f40.now 1).trans rfl)), trivial⟩ fun a hk => ?_
            refine x_op hk rfl ?_
            refine op_slice (o := o5420) tab hk (vs := [.int .i64 x5422]) (cs := [.int .i64 x5422]) rfl rfl rfl rfl rfl rfl rfl rfl rfl 1618 fun bx5427 w5424 o5425 st5426 f5428 => ?_
            replace f40 := f40.st st5426 (by decide)
            replace f4833 := f4833.st st5426 (by decide)
            replace f5 := f5.st st5426 (by decide)
            replace fg4 := fg4.st st5426 (by decide)
            replace hs := hs.loc0 st5426 (by decide)
            have f5429 : Ft (Own (encInt .i64) 3 (.slice (some ⟨bx5427, 0, none⟩) (([x5422] : List Int)).length 1) ([x5422] : List Int)) w5424 o5425 1618 := f5428.imp fun _ h_ => Own.of_box h_ rfl (by simp)
            have hk := hk.put 92 (.slice (some ⟨bx5427, 0, none⟩) (([x5422] : List Int)).length 1) rfl
            refine x_op hk rfl ?_
            obtain ⟨q5433, H⟩ := ifS H
            refine op_append (o := o5425) (E := (encInt .i64)) (xs := l4832) (ys := ([x5422] : List Int)) tab hk rfl rfl rfl rfl rfl rfl rfl f4833 (Own.rd f5429.now) q5433 fun A5434 c5435 w5430 o5431 st5432 f5436 hc5437 => ?_
            replace f40 := f40.st st5432 (by decide)
            replace f5 := f5.st st5432 (by decide)
            replace f5429 := f5429.st st5432 (by decide)
            replace fg4 := fg4.st st5432 (by decide)
            replace hs := hs.loc0 st5432 (by decide)
            have hk := hk.put 93 (.slice A5434 ((l4832 ++ ([x5422] : List Int))).length c5435) rfl
            refine x_run tab hk (k := 1) (lv := []) (ks := [0, 2, 4, 5, 6, 7, 8, 93, 94]) (e' := [(0, .string p0), (2, .pointer (some ⟨bx4, 0, none⟩)), (4, .int .i64 x5421), (5, .pointer (some ⟨bx39, 0, none⟩)), (6, .int .i64 t47.1), (7, .bool t47.2), (8, .int .i64 x4835), (93, .slice A5434 ((l4832 ++ ([x5422] : List Int))).length c5435), (94, .pointer (some ((⟨bx39, 0, none⟩ : Addr).add 1)))]) rfl trivial fun a hk => ?_
            refine x_op hk rfl ?_
            refine op_store tab hk (t := 24) (v := .slice A5434 ((l4832 ++ ([x5422] : List Int))).length c5435) (b := bx39) (k := 1) (cs' := [.string (ByteArray.extract p0 0 (Int.toNat x32)), .slice A5434 ((l4832 ++ ([x5422] : List Int))).length c5435, .string (⟨#[]⟩ : ByteArray)]) rfl rfl rfl rfl rfl rfl f40 rfl rfl fun w5438 o5439 st5440 f40_ => ?_
            replace f5 := f5.st st5440 (by decide)
            replace f5436 := f5436.st st5440 (by decide)
            replace fg4 := fg4.st st5440 (by decide)
            replace hs := hs.loc0 st5440 (by decide)
            replace f40 := f40_
            refine wpListIn_nil ?_
            refine then_n ?_
            refine x_mid (fun a_ w_ => ∃ o5448 : Nat → Nat, ∃ x5449 : Bool, Kn 184 a_ [(0, .string p0), (2, .pointer (some ⟨bx4, 0, none⟩)), (4, .int .i64 x5421), (5, .pointer (some ⟨bx39, 0, none⟩)), (6, .int .i64 t47.1), (7, .bool t47.2), (8, .int .i64 x4835), (101, .bool x5449)] ∧ St [] w (fun _ => 0) w_ o5448 ∧ Ft (Bx bx39 30 [.string (ByteArray.extract p0 0 (Int.toNat x32)), .slice A5434 ((l4832 ++ ([x5422] : List Int))).length c5435, .string (⟨#[]⟩ : ByteArray)]) w_ o5448 1621 ∧ Ft (Bx bx4 30 [.string (⟨#[]⟩ : ByteArray), .slice none 0 0, .string (⟨#[]⟩ : ByteArray)]) w_ o5448 1619 ∧ Ft (Own (encInt .i64) 3 (.slice A5434 ((l4832 ++ ([x5422] : List Int))).length c5435) (l4832 ++ ([x5422] : List Int))) w_ o5448 1620 ∧ Ft (GTab Tryd.prog "internal/strconv.uint64pow10" .u64 Lib.pow10Tab) w_ o5448 0 ∧ tidewrackref27_Parse_j15 l4832 x4835 lp5174 x5421 x5422 x5449 = some r) ?_ ?_
            rotate_left
            · rintro a w5450 ⟨o5448, x5449, hk, hs, f40, f5, f5436, fg4, H⟩
              unfold tidewrackref27_Parse_j15 at H
              cases b5451 : x5449
              · rw [b5451] at hk H
                replace H := bifF H
                refine x_if hk (b := false) rfl ?_
                refine (show Code.wpIn _ _ _ _ _ _ _ from ?_)
                refine wpIn_skip ?_
                refine blk_n ?_
                refine then_n ?_
                exact ⟨(fun b_ => (fun l_ => if l_ = 1619 then 1597 else if l_ = 1620 then 1598 else if l_ = 1621 then 1599 else l_) (o5448 b_)), x5421, A5434, c5435, (l4832 ++ ([x5422] : List Int)), (by exact Kn.pick (ks := [0, 2, 4, 5, 6, 7, 8]) hk rfl), (hs.relab0 (fun l_ => if l_ = 1619 then 1597 else if l_ = 1620 then 1598 else if l_ = 1621 then 1599 else l_) rfl), (f40.relab (fun l_ => if l_ = 1619 then 1597 else if l_ = 1620 then 1598 else if l_ = 1621 then 1599 else l_) rfl), (f5.relab (fun l_ => if l_ = 1619 then 1597 else if l_ = 1620 then 1598 else if l_ = 1621 then 1599 else l_) rfl), (f5436.relab (fun l_ => if l_ = 1619 then 1597 else if l_ = 1620 then 1598 else if l_ = 1621 then 1599 else l_) rfl), (fg4.relab (fun l_ => if l_ = 1619 then 1597 else if l_ = 1620 then 1598 else if l_ = 1621 then 1599 else l_) rfl), hc5437, H⟩
              · rw [b5451] at hk H
                replace H := bifT H
                refine x_if hk (b := true) rfl ?_
                refine (show Code.wpIn _ _ _ _ _ _ _ from ?_)
                refine wpIn_region_lit ?_
                refine x_run tab hk (k := 3) (lv := []) (ks := [0, 2, 4, 5, 6, 7, 8]) (e' := [(0, .string p0), (2, .pointer (some ⟨bx4, 0, none⟩)), (4, .int .i64 (IntKind.wrap .i64 (x5421 + 1))), (5, .pointer (some ⟨bx39, 0, none⟩)), (6, .int .i64 t47.1), (7, .bool t47.2), (8, .int .i64 x4835)]) rfl trivial fun a hk => ?_
                refine wpListIn_nil ?_
                refine blk_n ?_
                refine then_n ?_
                exact ⟨(fun b_ => (fun l_ => if l_ = 1619 then 1597 else if l_ = 1620 then 1598 else if l_ = 1621 then 1599 else l_) (o5448 b_)), (IntKind.wrap .i64 (x5421 + 1)), A5434, c5435, (l4832 ++ ([x5422] : List Int)), (by exact Kn.pick (ks := [0, 2, 4, 5, 6, 7, 8]) hk rfl), (hs.relab0 (fun l_ => if l_ = 1619 then 1597 else if l_ = 1620 then 1598 else if l_ = 1621 then 1599 else l_) rfl), (f40.relab (fun l_ => if l_ = 1619 then 1597 else if l_ = 1620 then 1598 else if l_ = 1621 then 1599 else l_) rfl), (f5.relab (fun l_ => if l_ = 1619 then 1597 else if l_ = 1620 then 1598 else if l_ = 1621 then 1599 else l_) rfl), (f5436.relab (fun l_ => if l_ = 1619 then 1597 else if l_ = 1620 then 1598 else if l_ = 1621 then 1599 else l_) rfl), (fg4.relab (fun l_ => if l_ = 1619 then 1597 else if l_ = 1620 then 1598 else if l_ = 1621 then 1599 else l_) rfl), hc5437, H⟩
            refine wpIn_region_lit ?_
            refine x_run tab hk (k := 5) (lv := []) (ks := [0, 2, 4, 5, 6, 7, 8, 99]) (e' := [(0, .string p0), (2, .pointer (some ⟨bx4, 0, none⟩)), (4, .int .i64 x5421), (5, .pointer (some ⟨bx39, 0, none⟩)), (6, .int .i64 t47.1), (7, .bool t47.2), (8, .int .i64 x4835), (99, .bool (decide (x4835 < (IntKind.wrap .i64 (t47.1 - 1)))))]) rfl trivial fun a hk => ?_
            cases b5452 : (decide (x4835 < (IntKind.wrap .i64 (t47.1 - 1))))
            · rw [b5452] at hk H
              replace H := bifF H
              refine x_run tab hk (k := 2) (lv := []) (ks := [0, 2, 4, 5, 6, 7, 8, 101]) (e' := [(0, .string p0), (2, .pointer (some ⟨bx4, 0, none⟩)), (4, .int .i64 x5421), (5, .pointer (some ⟨bx39, 0, none⟩)), (6, .int .i64 t47.1), (7, .bool t47.2), (8, .int .i64 x4835), (101, .bool t47.2)]) rfl trivial fun a hk => ?_
              refine wpListIn_nil ?_
              refine then_n ?_
              exact ⟨(fun b_ => (fun l_ => if l_ = 1615 then 1619 else if l_ = 1616 then 1620 else if l_ = 1617 then 1621 else l_) (o5439 b_)), t47.2, (by exact Kn.pick (ks := [0, 2, 4, 5, 6, 7, 8, 101]) hk rfl), (hs.relab0 (fun l_ => if l_ = 1615 then 1619 else if l_ = 1616 then 1620 else if l_ = 1617 then 1621 else l_) rfl), (f40.relab (fun l_ => if l_ = 1615 then 1619 else if l_ = 1616 then 1620 else if l_ = 1617 then 1621 else l_) rfl), (f5.relab (fun l_ => if l_ = 1615 then 1619 else if l_ = 1616 then 1620 else if l_ = 1617 then 1621 else l_) rfl), (f5436.relab (fun l_ => if l_ = 1615 then 1619 else if l_ = 1616 then 1620 else if l_ = 1617 then 1621 else l_) rfl), (fg4.relab (fun l_ => if l_ = 1615 then 1619 else if l_ = 1616 then 1620 else if l_ = 1617 then 1621 else l_) rfl), H⟩
            · rw [b5452] at hk H
              replace H := bifT H
              refine x_run tab hk (k := 2) (lv := []) (ks := [0, 2, 4, 5, 6, 7, 8, 101]) (e' := [(0, .string p0), (2, .pointer (some ⟨bx4, 0, none⟩)), (4, .int .i64 x5421), (5, .pointer (some ⟨bx39, 0, none⟩)), (6, .int .i64 t47.1), (7, .bool t47.2), (8, .int .i64 x4835), (101, .bool true)]) rfl trivial fun a hk => ?_
              refine wpListIn_nil ?_
              refine then_n ?_
              exact ⟨(fun b_ => (fun l_ => if l_ = 1615 then 1619 else if l_ = 1616 then 1620 else if l_ = 1617 then 1621 else l_) (o5439 b_)), true, (by exact Kn.pick (ks := [0, 2, 4, 5, 6, 7, 8, 101]) hk rfl), (hs.relab0 (fun l_ => if l_ = 1615 then 1619 else if l_ = 1616 then 1620 else if l_ = 1617 then 1621 else l_) rfl), (f40.relab (fun l_ => if l_ = 1615 then 1619 else if l_ = 1616 then 1620 else if l_ = 1617 then 1621 else l_) rfl), (f5.relab (fun l_ => if l_ = 1615 then 1619 else if l_ = 1616 then 1620 else if l_ = 1617 then 1621 else l_) rfl), (f5436.relab (fun l_ => if l_ = 1615 then 1619 else if l_ = 1616 then 1620 else if l_ = 1617 then 1621 else l_) rfl), (fg4.relab (fun l_ => if l_ = 1615 then 1619 else if l_ = 1616 then 1620 else if l_ = 1617 then 1621 else l_) rfl), H⟩
          refine wpIn_block ?_
          refine x_loop (fun j_ a_ w_ => ∃ o5472 : Nat → Nat, ∃ x5473 : Int, ∃ x5474 : Int, ∃ x5475 : Int, Kn 184 a_ [(0, .string p0), (2, .pointer (some ⟨bx4, 0, none⟩)), (4, .int .i64 x5473), (5, .pointer (some ⟨bx39, 0, none⟩)), (6, .int .i64 t47.1), (7, .bool t47.2), (8, .int .i64 x4835), (9, .int .i64 x5474), (10, .int .i64 x5475)] ∧ St [] w (fun _ => 0) w_ o5472 ∧ Ft (Bx bx39 30 [.string (ByteArray.extract p0 0 (Int.toNat x32)), .slice A4830 (l4832).length c4831, .string (⟨#[]⟩ : ByteArray)]) w_ o5472 1630 ∧ Ft (Own (encInt .i64) 3 (.slice A4830 (l4832).length c4831) l4832) w_ o5472 1629 ∧ Ft (Bx bx4 30 [.string (⟨#[]⟩ : ByteArray), .slice none 0 0, .string (⟨#[]⟩ : ByteArray)]) w_ o5472 1628 ∧ Ft (GTab Tryd.prog "internal/strconv.uint64pow10" .u64 Lib.pow10Tab) w_ o5472 0 ∧ tidewrackref27_Parse_l16 p0 t47 l4832 x4835 lp5174 j_ x5473 x5474 x5475 = some r) (k := K) ⟨(fun b_ => (fun l_ => if l_ = 1480 then 1628 else if l_ = 1481 then 1629 else if l_ = 1482 then 1630 else l_) (o4828 b_)), x4829, 0, 0, (by exact Kn.pick (ks := [0, 2, 4, 5, 6, 7, 8, 9, 10]) hk rfl), (hs.relab0 (fun l_ => if l_ = 1480 then 1628 else if l_ = 1481 then 1629 else if l_ = 1482 then 1630 else l_) rfl), (f40.relab (fun l_ => if l_ = 1480 then 1628 else if l_ = 1481 then 1629 else if l_ = 1482 then 1630 else l_) rfl), (f4833.relab (fun l_ => if l_ = 1480 then 1628 else if l_ = 1481 then 1629 else if l_ = 1482 then 1630 else l_) rfl), (f5.relab (fun l_ => if l_ = 1480 then 1628 else if l_ = 1481 then 1629 else if l_ = 1482 then 1630 else l_) rfl), (fg4.relab (fun l_ => if l_ = 1480 then 1628 else if l_ = 1481 then 1629 else if l_ = 1482 then 1630 else l_) rfl), H⟩ (by rintro _ _ ⟨_, _, _, _, _, _, _, _, _, _, H_⟩; exact absurd (show (none : Option (T25 × Int)) = some r from H_) (by simp)) ?_
          rintro k5493 a w5492 ⟨o5472, x5473, x5474, x5475, hk, hs, f40, f4833, f5, fg4, H⟩
          rw [tidewrackref27_Parse_l16] at H
          obtain ⟨lp5494, hlp5495⟩ : ∃ lp_, lp_ = tidewrackref27_Parse_l16 p0 t47 l4832 x4835 lp5174 k5493 := ⟨_, rfl⟩
          rw [← hlp5495] at H
          refine x_mid (fun a_ w_ => ∃ o5504 : Nat → Nat, Kn 184 a_ [(0, .string p0), (2, .pointer (some ⟨bx4, 0, none⟩)), (4, .int .i64 x5473), (5, .pointer (some ⟨bx39, 0, none⟩)), (6, .int .i64 t47.1), (7, .bool t47.2), (8, .int .i64 x4835), (9, .int .i64 x5474), (10, .int .i64 x5475)] ∧ St [] w (fun _ => 0) w_ o5504 ∧ Ft (Bx bx39 30 [.string (ByteArray.extract p0 0 (Int.toNat x32)), .slice A4830 (l4832).length c4831, .string (⟨#[]⟩ : ByteArray)]) w_ o5504 1636 ∧ Ft (Own (encInt .i64) 3 (.slice A4830 (l4832).length c4831) l4832) w_ o5504 1635 ∧ Ft (Bx bx4 30 [.string (⟨#[]⟩ : ByteArray), .slice none 0 0, .string (⟨#[]⟩ : ByteArray)]) w_ o5504 1634 ∧ Ft (GTab Tryd.prog "internal/strconv.uint64pow10" .u64 Lib.pow10Tab) w_ o5504 0 ∧ tidewrackref27_Parse_j17 p0 x5473 x5474 x5475 lp5494 = some r) ?_ ?_
          rotate_left
          · rintro a w5505 ⟨o5504, hk, hs, f40, f4833, f5, fg4, H⟩
            unfold tidewrackref27_Parse_j17 at H
            refine wpIn_block ?_
            refine x_seq ?_
            refine wpIn_region_lit ?_
            obtain ⟨q5506, H⟩ := ifS H
            refine x_run tab hk (k := 9) (lv := []) (ks := [0, 2, 4, 5, 6, 7, 8, 9, 10]) (e' := [(0, .string p0), (2, .pointer (some ⟨bx4, 0, none⟩)), (4, .int .i64 x5473), (5, .pointer (some ⟨bx39, 0, none⟩)), (6, .int .i64 t47.1), (7, .bool t47.2), (8, .int .i64 x4835), (9, .int .i64 (IntKind.wrap .i64 ((IntKind.wrap .i64 ((IntKind.wrap .i64 (10 * x5474)) + (IntKind.wrap .i64 (bt p0 x5473)))) - 48))), (10, .int .i64 x5475)]) rfl ⟨q5506, trivial⟩ fun a hk => ?_
            refine wpListIn_nil ?_
            refine then_n ?_
            refine x_seq ?_
            refine wpIn_region_lit ?_
            refine x_run tab hk (k := 3) (lv := []) (ks := [0, 2, 4, 5, 6, 7, 8, 9, 10]) (e' := [(0, .string p0), (2, .pointer (some ⟨bx4, 0, none⟩)), (4, .int .i64 (IntKind.wrap .i64 (x5473 + 1))), (5, .pointer (some ⟨bx39, 0, none⟩)), (6, .int .i64 t47.1), (7, .bool t47.2), (8, .int .i64 x4835), (9, .int .i64 (IntKind.wrap .i64 ((IntKind.wrap .i64 ((IntKind.wrap .i64 (10 * x5474)) + (IntKind.wrap .i64 (bt p0 x5473)))) - 48))), (10, .int .i64 x5475)]) rfl trivial fun a hk => ?_
            refine wpListIn_nil ?_
            refine then_n ?_
            refine wpIn_region_lit ?_
            refine x_run tab hk (k := 3) (lv := []) (ks := [0, 2, 4, 5, 6, 7, 8, 9, 10]) (e' := [(0, .string p0), (2, .pointer (some ⟨bx4, 0, none⟩)), (4, .int .i64 (IntKind.wrap .i64 (x5473 + 1))), (5, .pointer (some ⟨bx39, 0, none⟩)), (6, .int .i64 t47.1), (7, .bool t47.2), (8, .int .i64 x4835), (9, .int .i64 (IntKind.wrap .i64 ((IntKind.wrap .i64 ((IntKind.wrap .i64 (10 * x5474)) + (IntKind.wrap .i64 (bt p0 x5473)))) - 48))), (10, .int .i64 (IntKind.wrap .i64 (x5475 + 1)))]) rfl trivial fun a hk => ?_
            refine wpListIn_nil ?_
            refine blk_n ?_
            refine then_n ?_
            exact ⟨k5493, Nat.le_refl _, (fun b_ => (fun l_ => if l_ = 1634 then 1628 else if l_ = 1635 then 1629 else if l_ = 1636 then 1630 else l_) (o5504 b_)), (IntKind.wrap .i64 (x5473 + 1)), (IntKind.wrap .i64 ((IntKind.wrap .i64 ((IntKind.wrap .i64 (10 * x5474)) + (IntKind.wrap .i64 (bt p0 x5473)))) - 48)), (IntKind.wrap .i64 (x5475 + 1)), (by exact Kn.pick (ks := [0, 2, 4, 5, 6, 7, 8, 9, 10]) hk rfl), (hs.relab0 (fun l_ => if l_ = 1634 then 1628 else if l_ = 1635 then 1629 else if l_ = 1636 then 1630 else l_) rfl), (f40.relab (fun l_ => if l_ = 1634 then 1628 else if l_ = 1635 then 1629 else if l_ = 1636 then 1630 else l_) rfl), (f4833.relab (fun l_ => if l_ = 1634 then 1628 else if l_ = 1635 then 1629 else if l_ = 1636 then 1630 else l_) rfl), (f5.relab (fun l_ => if l_ = 1634 then 1628 else if l_ = 1635 then 1629 else if l_ = 1636 then 1630 else l_) rfl), (fg4.relab (fun l_ => if l_ = 1634 then 1628 else if l_ = 1635 then 1629 else if l_ = 1636 then 1630 else l_) rfl), (hlp5495 ▸ H)⟩
          refine x_seq ?_
          refine wpIn_region_lit ?_
          refine x_run tab hk (k := 5) (lv := []) (ks := [0, 2, 4, 5, 6, 7, 8, 9, 10, 61]) (e' := [(0, .string p0), (2, .pointer (some ⟨bx4, 0, none⟩)), (4, .int .i64 x5473), (5, .pointer (some ⟨bx39, 0, none⟩)), (6, .int .i64 t47.1), (7, .bool t47.2), (8, .int .i64 x4835), (9, .int .i64 x5474), (10, .int .i64 x5475), (61, .bool (decide (x5473 < ((p0).size : Int))))]) rfl trivial fun a hk => ?_
          cases b5507 : (decide (x5473 < ((p0).size : Int)))
          · rw [b5507] at hk H
            replace H := bifF H
            refine x_run tab hk (k := 10) (lv := []) (ks := [0, 2, 4, 5, 6, 7, 8, 9, 10, 67, 71]) (e' := [(0, .string p0), (2, .pointer (some ⟨bx4, 0, none⟩)), (4, .int .i64 x5473), (5, .pointer (some ⟨bx39, 0, none⟩)), (6, .int .i64 t47.1), (7, .bool t47.2), (8, .int .i64 x4835), (9, .int .i64 x5474), (10, .int .i64 x5475), (67, .bool false), (71, undef)]) rfl trivial fun a hk => ?_
            refine x_run tab hk (k := 5) (lv := []) (ks := [0, 2, 4, 5, 6, 7, 8, 9, 10, 76]) (e' := [(0, .string p0), (2, .pointer (some ⟨bx4, 0, none⟩)), (4, .int .i64 x5473), (5, .pointer (some ⟨bx39, 0, none⟩)), (6, .int .i64 t47.1), (7, .bool t47.2), (8, .int .i64 x4835), (9, .int .i64 x5474), (10, .int .i64 x5475), (76, .bool false)]) rfl trivial fun a hk => ?_
            refine wpListIn_nil ?_
            refine then_n ?_
            refine x_if hk (b := false) rfl ?_
            refine (show Code.wpIn _ _ _ _ _ _ _ from ?_)
            refine wpIn_exit ?_
            refine then_x ?_
            refine then_x ?_
            refine blk_x ?_
            refine then_n ?_
            exact ⟨(fun b_ => (fun l_ => if l_ = 1628 then 1615 else if l_ = 1629 then 1616 else if l_ = 1630 then 1617 else l_) (o5472 b_)), x5473, x5474, (by exact Kn.pick (ks := [0, 2, 4, 5, 6, 7, 8, 9]) hk rfl), (hs.relab0 (fun l_ => if l_ = 1628 then 1615 else if l_ = 1629 then 1616 else if l_ = 1630 then 1617 else l_) rfl), (f40.relab (fun l_ => if l_ = 1628 then 1615 else if l_ = 1629 then 1616 else if l_ = 1630 then 1617 else l_) rfl), (f4833.relab (fun l_ => if l_ = 1628 then 1615 else if l_ = 1629 then 1616 else if l_ = 1630 then 1617 else l_) rfl), (f5.relab (fun l_ => if l_ = 1628 then 1615 else if l_ = 1629 then 1616 else if l_ = 1630 then 1617 else l_) rfl), (fg4.relab (fun l_ => if l_ = 1628 then 1615 else if l_ = 1629 then 1616 else if l_ = 1630 then 1617 else l_) rfl), H⟩
          · rw [b5507] at hk H
            replace H := bifT H
            obtain ⟨q5508, H⟩ := ifS H
            refine x_run tab hk (k := 6) (lv := []) (ks := [0, 2, 4, 5, 6, 7, 8, 9, 10, 67]) (e' := [(0, .string p0), (2, .pointer (some ⟨bx4, 0, none⟩)), (4, .int .i64 x5473), (5, .pointer (some ⟨bx39, 0, none⟩)), (6, .int .i64 t47.1), (7, .bool t47.2), (8, .int .i64 x4835), (9, .int .i64 x5474), (10, .int .i64 x5475), (67, .bool (decide ((bt p0 x5473) ≥ (48 : Int))))]) rfl ⟨q5508, trivial⟩ fun a hk => ?_
            cases b5509 : (decide ((bt p0 x5473) ≥ (48 : Int)))
            · rw [b5509] at hk H
              replace H := bifF H
              refine x_run tab hk (k := 9) (lv := []) (ks := [0, 2, 4, 5, 6, 7, 8, 9, 10, 76]) (e' := [(0, .string p0), (2, .pointer (some ⟨bx4, 0, none⟩)), (4, .int .i64 x5473), (5, .pointer (some ⟨bx39, 0, none⟩)), (6, .int .i64 t47.1), (7, .bool t47.2), (8, .int .i64 x4835), (9, .int .i64 x5474), (10, .int .i64 x5475), (76, .bool false)]) rfl trivial fun a hk => ?_
              refine wpListIn_nil ?_
              refine then_n ?_
              refine x_if hk (b := false) rfl ?_
              refine (show Code.wpIn _ _ _ _ _ _ _ from ?_)
              refine wpIn_exit ?_
              refine then_x ?_
              refine then_x ?_
              refine blk_x ?_
              refine then_n ?_
              exact ⟨(fun b_ => (fun l_ => if l_ = 1628 then 1615 else if l_ = 1629 then 1616 else if l_ = 1630 then 1617 else l_) (o5472 b_)), x5473, x5474, (by exact Kn.pick (ks := [0, 2, 4, 5, 6, 7, 8, 9]) hk rfl), (hs.relab0 (fun l_ => if l_ = 1628 then 1615 else if l_ = 1629 then 1616 else if l_ = 1630 then 1617 else l_) rfl), (f40.relab (fun l_ => if l_ = 1628 then 1615 else if l_ = 1629 then 1616 else if l_ = 1630 then 1617 else l_) rfl), (f4833.relab (fun l_ => if l_ = 1628 then 1615 else if l_ = 1629 then 1616 else if l_ = 1630 then 1617 else l_) rfl), (f5.relab (fun l_ => if l_ = 1628 then 1615 else if l_ = 1629 then 1616 else if l_ = 1630 then 1617 else l_) rfl), (fg4.relab (fun l_ => if l_ = 1628 then 1615 else if l_ = 1629 then 1616 else if l_ = 1630 then 1617 else l_) rfl), H⟩
            · rw [b5509] at hk H
              replace H := bifT H
              refine x_run tab hk (k := 6) (lv := []) (ks := [0, 2, 4, 5, 6, 7, 8, 9, 10, 73]) (e' := [(0, .string p0), (2, .pointer (some ⟨bx4, 0, none⟩)), (4, .int .i64 x5473), (5, .pointer (some ⟨bx39, 0, none⟩)), (6, .int .i64 t47.1), (7, .bool t47.2), (8, .int .i64 x4835), (9, .int .i64 x5474), (10, .int .i64 x5475), (73, .bool (decide ((bt p0 x5473) ≤ (57 : Int))))]) rfl ⟨q5508, trivial⟩ fun a hk => ?_
              cases b5510 : (decide ((bt p0 x5473) ≤ (57 : Int)))
              · rw [b5510] at hk H
                replace H := bifF H
                refine x_run tab hk (k := 3) (lv := []) (ks := [0, 2, 4, 5, 6, 7, 8, 9, 10, 76]) (e' := [(0, .string p0), (2, .pointer (some ⟨bx4, 0, none⟩)), (4, .int .i64 x5473), (5, .pointer (some ⟨bx39, 0, none⟩)), (6, .int .i64 t47.1), (7, .bool t47.2), (8, .int .i64 x4835), (9, .int .i64 x5474), (10, .int .i64 x5475), (76, .bool false)]) rfl trivial fun a hk => ?_
                refine wpListIn_nil ?_
                refine then_n ?_
                refine x_if hk (b := false) rfl ?_
                refine (show Code.wpIn _ _ _ _ _ _ _ from ?_)
                refine wpIn_exit ?_
                refine then_x ?_
                refine then_x ?_
                refine blk_x ?_
                refine then_n ?_
                exact ⟨(fun b_ => (fun l_ => if l_ = 1628 then 1615 else if l_ = 1629 then 1616 else if l_ = 1630 then 1617 else l_) (o5472 b_)), x5473, x5474, (by exact Kn.pick (ks := [0, 2, 4, 5, 6, 7, 8, 9]) hk rfl), (hs.relab0 (fun l_ => if l_ = 1628 then 1615 else if l_ = 1629 then 1616 else if l_ = 1630 then 1617 else l_) rfl), (f40.relab (fun l_ => if l_ = 1628 then 1615 else if l_ = 1629 then 1616 else if l_ = 1630 then 1617 else l_) rfl), (f4833.relab (fun l_ => if l_ = 1628 then 1615 else if l_ = 1629 then 1616 else if l_ = 1630 then 1617 else l_) rfl), (f5.relab (fun l_ => if l_ = 1628 then 1615 else if l_ = 1629 then 1616 else if l_ = 1630 then 1617 else l_) rfl), (fg4.relab (fun l_ => if l_ = 1628 then 1615 else if l_ = 1629 then 1616 else if l_ = 1630 then 1617 else l_) rfl), H⟩
              · rw [b5510] at hk H
                replace H := bifT H
                refine x_run tab hk (k := 3) (lv := []) (ks := [0, 2, 4, 5, 6, 7, 8, 9, 10, 76]) (e' := [(0, .string p0), (2, .pointer (some ⟨bx4, 0, none⟩)), (4, .int .i64 x5473), (5, .pointer (some ⟨bx39, 0, none⟩)), (6, .int .i64 t47.1), (7, .bool t47.2), (8, .int .i64 x4835), (9, .int .i64 x5474), (10, .int .i64 x5475), (76, .bool (decide (x5475 < (11 : Int))))]) rfl trivial fun a hk => ?_
                refine wpListIn_nil ?_
                refine then_n ?_
                cases b5511 : (decide (x5475 < (11 : Int)))
                · rw [b5511] at hk H
                  replace H := bifF H
                  refine x_if hk (b := false) rfl ?_
                  refine (show Code.wpIn _ _ _ _ _ _ _ from ?_)
                  refine wpIn_exit ?_
                  refine then_x ?_
                  refine then_x ?_
                  refine blk_x ?_
                  refine then_n ?_
                  exact ⟨(fun b_ => (fun l_ => if l_ = 1628 then 1615 else if l_ = 1629 then 1616 else if l_ = 1630 then 1617 else l_) (o5472 b_)), x5473, x5474, (by exact Kn.pick (ks := [0, 2, 4, 5, 6, 7, 8, 9]) hk rfl), (hs.relab0 (fun l_ => if l_ = 1628 then 1615 else if l_ = 1629 then 1616 else if l_ = 1630 then 1617 else l_) rfl), (f40.relab (fun l_ => if l_ = 1628 then 1615 else if l_ = 1629 then 1616 else if l_ = 1630 then 1617 else l_) rfl), (f4833.relab (fun l_ => if l_ = 1628 then 1615 else if l_ = 1629 then 1616 else if l_ = 1630 then 1617 else l_) rfl), (f5.relab (fun l_ => if l_ = 1628 then 1615 else if l_ = 1629 then 1616 else if l_ = 1630 then 1617 else l_) rfl), (fg4.relab (fun l_ => if l_ = 1628 then 1615 else if l_ = 1629 then 1616 else if l_ = 1630 then 1617 else l_) rfl), H⟩
                · rw [b5511] at hk H
                  replace H := bifT H
                  refine x_if hk (b := true) rfl ?_
                  refine (show Code.wpIn _ _ _ _ _ _ _ from ?_)
                  refine wpIn_skip ?_
                  refine then_n ?_
                  exact ⟨(fun b_ => (fun l_ => if l_ = 1628 then 1634 else if l_ = 1629 then 1635 else if l_ = 1630 then 1636 else l_) (o5472 b_)), (by exact Kn.pick (ks := [0, 2, 4, 5, 6, 7, 8, 9, 10]) hk rfl), (hs.relab0 (fun l_ => if l_ = 1628 then 1634 else if l_ = 1629 then 1635 else if l_ = 1630 then 1636 else l_) rfl), (f40.relab (fun l_ => if l_ = 1628 then 1634 else if l_ = 1629 then 1635 else if l_ = 1630 then 1636 else l_) rfl), (f4833.relab (fun l_ => if l_ = 1628 then 1634 else if l_ = 1629 then 1635 else if l_ = 1630 then 1636 else l_) rfl), (f5.relab (fun l_ => if l_ = 1628 then 1634 else if l_ = 1629 then 1635 else if l_ = 1630 then 1636 else l_) rfl), (fg4.relab (fun l_ => if l_ = 1628 then 1634 else if l_ = 1629 then 1635 else if l_ = 1630 then 1636 else l_) rfl), H⟩
      refine x_mid (fun a_ w_ => ∃ o5519 : Nat → Nat, ∃ x5520 : Bool, Kn 184 a_ [(0, .string p0), (2, .pointer (some ⟨bx4, 0, none⟩)), (4, .int .i64 x32), (5, .pointer (some ⟨bx39, 0, none⟩)), (6, .int .i64 t47.1), (7, .bool t47.2), (48, .bool x5520)] ∧ St [] w (fun _ => 0) w_ o5519 ∧ Ft (Bx bx39 30 [.string (ByteArray.extract p0 0 (Int.toNat x32)), .slice none 0 0, .string (⟨#[]⟩ : ByteArray)]) w_ o5519 1638 ∧ Ft (Bx bx4 30 [.string (⟨#[]⟩ : ByteArray), .slice none 0 0, .string (⟨#[]⟩ : ByteArray)]) w_ o5519 1637 ∧ Ft (GTab Tryd.prog "internal/strconv.uint64pow10" .u64 Lib.pow10Tab) w_ o5519 0 ∧ tidewrackref27_Parse_j18 K p0 x32 t47 x5520 = some r) ?_ ?_
      rotate_left
      · rintro a w5521 ⟨o5519, x5520, hk, hs, f40, f5, fg4, H⟩
        unfold tidewrackref27_Parse_j18 at H
        cases b5522 : x5520
        · rw [b5522] at hk H
          replace H := bifF H
          refine x_if hk (b := false) rfl ?_
          refine (show Code.wpIn _ _ _ _ _ _ _ from ?_)
          refine wpIn_skip ?_
          refine then_n ?_
          exact ⟨(fun b_ => (fun l_ => if l_ = 1637 then 8 else if l_ = 1638 then 9 else l_) (o5519 b_)), (by exact Kn.pick (ks := [0, 2, 4, 5, 6, 7]) hk rfl), (hs.relab0 (fun l_ => if l_ = 1637 then 8 else if l_ = 1638 then 9 else l_) rfl), (f40.relab (fun l_ => if l_ = 1637 then 8 else if l_ = 1638 then 9 else l_) rfl), (f5.relab (fun l_ => if l_ = 1637 then 8 else if l_ = 1638 then 9 else l_) rfl), (fg4.relab (fun l_ => if l_ = 1637 then 8 else if l_ = 1638 then 9 else l_) rfl), H⟩
        · rw [b5522] at hk H
          replace H := bifT H
          refine x_if hk (b := true) rfl ?_
          refine (show Code.wpIn _ _ _ _ _ _ _ from ?_)
          refine x_seq ?_
          refine wpIn_region_lit ?_
          refine x_run tab hk (k := 1) (lv := []) (ks := [2, 49]) (e' := [(2, .pointer (some ⟨bx4, 0, none⟩)), (49, .agg #[.string (⟨#[]⟩ : ByteArray), .slice none 0 0, .string (⟨#[]⟩ : ByteArray)])]) rfl trivial fun a hk => ?_
          refine x_op hk rfl ?_
          refine op_store tab hk (t := 30) (v := .agg #[.string (⟨#[]⟩ : ByteArray), .slice none 0 0, .string (⟨#[]⟩ : ByteArray)]) (b := bx4) (k := 0) (cs' := [.string (⟨#[]⟩ : ByteArray), .slice none 0 0, .string (⟨#[]⟩ : ByteArray)]) rfl rfl rfl rfl rfl rfl f5 rfl rfl fun w5523 o5524 st5525 f5_ => ?_
          replace fg4 := fg4.st st5525 (by decide)
          replace hs := hs.loc0 st5525 (by decide)
          replace f5 := f5_
          refine x_run tab hk (k := 1) (lv := []) (ks := [2, 3]) (e' := [(2, .pointer (some ⟨bx4, 0, none⟩)), (3, .int .i64 1)]) rfl trivial fun a hk => ?_
          refine wpListIn_nil ?_
          refine then_n ?_
          refine wpIn_ret ?_
          refine then_r ?_
          obtain rfl := Option.some.inj H
          exact x_retG hk (rs := [.cell 2 30, .tmp 3]) (vs := [.agg #[.string (⟨#[]⟩ : ByteArray), .slice none 0 0, .string (⟨#[]⟩ : ByteArray)], .int .i64 1]) rfl ⟨⟨_, rfl, load_box tab rfl rfl f5.now (k := 0) rfl rfl⟩, rfl, trivial⟩ ⟨fun b_ => if b_ < w.heap.size then o b_ else (fun _ => 0) (o5524 b_), none, 0, rfl, hs.close0 o (fun _ => 0), (Ft.of_all (fun _ => Own.nil _ _ _) _ _ _), (by simp)⟩
      refine wpIn_region_lit ?_
      refine x_run tab hk (k := 3) (lv := []) (ks := [0, 2, 4, 5, 6, 7, 43]) (e' := [(0, .string p0), (2, .pointer (some ⟨bx4, 0, none⟩)), (4, .int .i64 x32), (5, .pointer (some ⟨bx39, 0, none⟩)), (6, .int .i64 t47.1), (7, .bool t47.2), (43, .bool (decide (t47.1 < (0 : Int))))]) rfl trivial fun a hk => ?_
      cases b5526 : (decide (t47.1 < (0 : Int)))
      · rw [b5526] at hk H
        replace H := bifF H
        refine x_run tab hk (k := 5) (lv := []) (ks := [0, 2, 4, 5, 6, 7, 48]) (e' := [(0, .string p0), (2, .pointer (some ⟨bx4, 0, none⟩)), (4, .int .i64 x32), (5, .pointer (some ⟨bx39, 0, none⟩)), (6, .int .i64 t47.1), (7, .bool t47.2), (48, .bool (x32 == ((p0).size : Int)))]) rfl trivial fun a hk => ?_
        refine wpListIn_nil ?_
        refine then_n ?_
        exact ⟨(fun b_ => (fun l_ => if l_ = 4 then 1637 else if l_ = 5 then 1638 else l_) (o50 b_)), (x32 == ((p0).size : Int)), (by exact Kn.pick (ks := [0, 2, 4, 5, 6, 7, 48]) hk rfl), (hs.relab0 (fun l_ => if l_ = 4 then 1637 else if l_ = 5 then 1638 else l_) rfl), (f40.relab (fun l_ => if l_ = 4 then 1637 else if l_ = 5 then 1638 else l_) rfl), (f5.relab (fun l_ => if l_ = 4 then 1637 else if l_ = 5 then 1638 else l_) rfl), (fg4.relab (fun l_ => if l_ = 4 then 1637 else if l_ = 5 then 1638 else l_) rfl), H⟩
      · rw [b5526] at hk H
        replace H := bifT H
        refine x_run tab hk (k := 5) (lv := []) (ks := [0, 2, 4, 5, 6, 7, 48]) (e' := [(0, .string p0), (2, .pointer (some ⟨bx4, 0, none⟩)), (4, .int .i64 x32), (5, .pointer (some ⟨bx39, 0, none⟩)), (6, .int .i64 t47.1), (7, .bool t47.2), (48, .bool true)]) rfl trivial fun a hk => ?_
        refine wpListIn_nil ?_
        refine then_n ?_
        exact ⟨(fun b_ => (fun l_ => if l_ = 4 then 1637 else if l_ = 5 then 1638 else l_) (o50 b_)), true, (by exact Kn.pick (ks := [0, 2, 4, 5, 6, 7, 48]) hk rfl), (hs.relab0 (fun l_ => if l_ = 4 then 1637 else if l_ = 5 then 1638 else l_) rfl), (f40.relab (fun l_ => if l_ = 4 then 1637 else if l_ = 5 then 1638 else l_) rfl), (f5.relab (fun l_ => if l_ = 4 then 1637 else if l_ = 5 then 1638 else l_) rfl), (fg4.relab (fun l_ => if l_ = 4 then 1637 else if l_ = 5 then 1638 else l_) rfl), H⟩
    refine wpIn_block ?_
    refine x_loop (fun j_ a_ w_ => ∃ o5533 : Nat → Nat, ∃ x5534 : Int, Kn 184 a_ [(0, .string p0), (2, .pointer (some ⟨bx4, 0, none⟩)), (4, .int .i64 x5534)] ∧ St [] w (fun _ => 0) w_ o5533 ∧ Ft (Bx bx4 30 [.string (⟨#[]⟩ : ByteArray), .slice none 0 0, .string (⟨#[]⟩ : ByteArray)]) w_ o5533 1640 ∧ Ft (GTab Tryd.prog "internal/strconv.uint64pow10" .u64 Lib.pow10Tab) w_ o5533 0 ∧ tidewrackref27_Parse_l19 K p0 j_ x5534 = some r) (k := K) ⟨(fun b_ => (fun l_ => if l_ = 1 then 1640 else l_) (o2 b_)), 0, (by exact Kn.pick (ks := [0, 2, 4]) hk rfl), (hs.relab0 (fun l_ => if l_ = 1 then 1640 else l_) rfl), (f5.relab (fun l_ => if l_ = 1 then 1640 else l_) rfl), (fg4.relab (fun l_ => if l_ = 1 then 1640 else l_) rfl), H⟩ (by rintro _ _ ⟨_, _, _, _, _, _, H_⟩; exact absurd (show (none : Option (T25 × Int)) = some r from H_) (by simp)) ?_
    rintro k5539 a w5538 ⟨o5533, x5534, hk, hs, f5, fg4, H⟩
    rw [tidewrackref27_Parse_l19] at H
    obtain ⟨lp5540, hlp5541⟩ : ∃ lp_, lp_ = tidewrackref27_Parse_l19 K p0 k5539 := ⟨_, rfl⟩
    rw [← hlp5541] at H
    refine x_seq ?_
    refine x_seq ?_
    refine wpIn_region_lit ?_
    refine x_run tab hk (k := 5) (lv := []) (ks := [0, 2, 4, 23]) (e' := [(0, .string p0), (2, .pointer (some ⟨bx4, 0, none⟩)), (4, .int .i64 x5534), (23, .bool (decide (x5534 < ((p0).size : Int))))]) rfl trivial fun a hk => ?_
    cases b5542 : (decide (x5534 < ((p0).size : Int)))
    · rw [b5542] at hk H
      replace H := bifF H
      refine x_run tab hk (k := 5) (lv := []) (ks := [0, 2, 4, 28]) (e' := [(0, .string p0), (2, .pointer (some ⟨bx4, 0, none⟩)), (4, .int .i64 x5534), (28, .bool false)]) rfl trivial fun a hk => ?_
      refine wpListIn_nil ?_
      refine then_n ?_
      refine x_if hk (b := false) rfl ?_
      refine (show Code.wpIn _ _ _ _ _ _ _ from ?_)
      refine wpIn_exit ?_
      refine then_x ?_
      refine then_x ?_
      refine blk_x ?_
      refine then_n ?_
      exact ⟨(fun b_ => (fun l_ => if l_ = 1640 then 4 else l_) (o5533 b_)), x5534, (by exact Kn.pick (ks := [0, 2, 4]) hk rfl), (hs.relab0 (fun l_ => if l_ = 1640 then 4 else l_) rfl), (f5.relab (fun l_ => if l_ = 1640 then 4 else l_) rfl), (fg4.relab (fun l_ => if l_ = 1640 then 4 else l_) rfl), H⟩
    · rw [b5542] at hk H
      replace H := bifT H
      obtain ⟨q5543, H⟩ := ifS H
      refine x_run tab hk (k := 5) (lv := []) (ks := [0, 2, 4, 28]) (e' := [(0, .string p0), (2, .pointer (some ⟨bx4, 0, none⟩)), (4, .int .i64 x5534), (28, .bool ((bt p0 x5534) != (40 : Int)))]) rfl ⟨q5543, trivial⟩ fun a hk => ?_
      refine wpListIn_nil ?_
      refine then_n ?_
      cases b5544 : ((bt p0 x5534) != (40 : Int))
      · rw [b5544] at hk H
        replace H := bifF H
        refine x_if hk (b := false) rfl ?_
        refine (show Code.wpIn _ _ _ _ _ _ _ from ?_)
        refine wpIn_exit ?_
        refine then_x ?_
        refine then_x ?_
        refine blk_x ?_
        refine then_n ?_
        exact ⟨(fun b_ => (fun l_ => if l_ = 1640 then 4 else l_) (o5533 b_)), x5534, (by exact Kn.pick (ks := [0, 2, 4]) hk rfl), (hs.relab0 (fun l_ => if l_ = 1640 then 4 else l_) rfl), (f5.relab (fun l_ => if l_ = 1640 then 4 else l_) rfl), (fg4.relab (fun l_ => if l_ = 1640 then 4 else l_) rfl), H⟩
      · rw [b5544] at hk H
        replace H := bifT H
        refine x_if hk (b := true) rfl ?_
        refine (show Code.wpIn _ _ _ _ _ _ _ from ?_)
        refine wpIn_skip ?_
        refine then_n ?_
        refine wpIn_block ?_
        refine wpIn_region_lit ?_
        refine x_run tab hk (k := 3) (lv := []) (ks := [0, 2, 4]) (e' := [(0, .string p0), (2, .pointer (some ⟨bx4, 0, none⟩)), (4, .int .i64 (IntKind.wrap .i64 (x5534 + 1)))]) rfl trivial fun a hk => ?_
        refine wpListIn_nil ?_
        refine blk_n ?_
        refine then_n ?_
        exact ⟨k5539, Nat.le_refl _, o5533, (IntKind.wrap .i64 (x5534 + 1)), (by exact Kn.pick (ks := [0, 2, 4]) hk rfl), hs, f5, fg4, (hlp5541 ▸ H)⟩
  · rw [b6] at hk H
    replace H := bifT H
    refine x_if hk (b := true) rfl ?_
    refine (show Code.wpIn _ _ _ _ _ _ _ from ?_)
    refine x_seq ?_
    refine wpIn_region_lit ?_
    refine x_run tab hk (k := 1) (lv := []) (ks := [2, 18]) (e' := [(2, .pointer (some ⟨bx4, 0, none⟩)), (18, .agg #[.string (⟨#[]⟩ : ByteArray), .slice none 0 0, .string (⟨#[]⟩ : ByteArray)])]) rfl trivial fun a hk => ?_
    refine x_op hk rfl ?_
    refine op_store tab hk (t := 30) (v := .agg #[.string (⟨#[]⟩ : ByteArray), .slice none 0 0, .string (⟨#[]⟩ : ByteArray)]) (b := bx4) (k := 0) (cs' := [.string (⟨#[]⟩ : ByteArray), .slice none 0 0, .string (⟨#[]⟩ : ByteArray)]) rfl rfl rfl rfl rfl rfl f5 rfl rfl fun w5545 o5546 st5547 f5_ => ?_
    replace fg4 := fg4.st st5547 (by decide)
    replace hs := hs.loc0 st5547 (by decide)
    replace f5 := f5_
    refine x_run tab hk (k := 1) (lv := []) (ks := [2, 3]) (e' := [(2, .pointer (some ⟨bx4, 0, none⟩)), (3, .int .i64 3)]) rfl trivial fun a hk => ?_
    refine wpListIn_nil ?_
    refine then_n ?_
    refine wpIn_ret ?_
    refine then_r ?_
    obtain rfl := Option.some.inj H
    exact x_retG hk (rs := [.cell 2 30, .tmp 3]) (vs := [.agg #[.string (⟨#[]⟩ : ByteArray), .slice none 0 0, .string (⟨#[]⟩ : ByteArray)], .int .i64 3]) rfl ⟨⟨_, rfl, load_box tab rfl rfl f5.now (k := 0) rfl rfl⟩, rfl, trivial⟩ ⟨fun b_ => if b_ < w.heap.size then o b_ else (fun _ => 0) (o5546 b_), none, 0, rfl, hs.close0 o (fun _ => 0), (Ft.of_all (fun _ => Own.nil _ _ _) _ _ _), (by simp)⟩

/-! tidewrack/tidewracklaw01.Same -/
set_option maxHeartbeats 4000000 in
set_option maxRecDepth 20000 in
theorem tidewracklaw01_Same_calls (K : Nat) (Ap0 : Option Addr) (cp0 : Nat) (p0 : List Int) (Ap1 : Option Addr) (cp1 : Nat) (p1 : List Int) (w : World) (o : Nat → Nat) (Lp0 : Nat) (hp0 : Ft (RdC (encInt .i64) Ap0 p0) w o Lp0) (hcp0 : (p0).length ≤ cp0) (Lp1 : Nat) (hp1 : Ft (RdC (encInt .i64) Ap1 p1) w o Lp1) (hcp1 : (p1).length ≤ cp1)  (r : Bool) (H : tidewracklaw01_Same K p0 p1 = some r) :
    Calls Tryd.prog 21 #[.slice Ap0 (p0).length cp0, .slice Ap1 (p1).length cp1] w (Ret fun v_ w' => ∃ o' : Nat → Nat, v_ = .bool r ∧ St [] w o w' o') := by
  refine x_enter (vs := [.slice Ap0 (p0).length cp0, .slice Ap1 (p1).length cp1]) Tryd.func21 rfl rfl rfl fun a hk => ?_
  obtain ⟨o0, hs, h0⟩ := St.start w o
  have f900000 := h0 _ _ hp0
  have f900020 := h0 _ _ hp1
  clear h0
  rw [tidewracklaw01_Same] at H
  refine x_seq ?_
  refine wpIn_region_lit ?_
  refine x_run tab hk (k := 1) (lv := []) (ks := [0, 1]) (e' := [(0, .slice Ap0 (p0).length cp0), (1, .slice Ap1 (p1).length cp1)]) rfl trivial fun a hk => ?_
  refine wpListIn_nil ?_
  refine then_n ?_
  refine x_seq ?_
  refine x_seq ?_
  refine wpIn_region_lit ?_
  refine x_run tab hk (k := 5) (lv := []) (ks := [0, 1, 10]) (e' := [(0, .slice Ap0 (p0).length cp0), (1, .slice Ap1 (p1).length cp1), (10, .bool (((p0).length : Int) != ((p1).length : Int)))]) rfl trivial fun a hk => ?_
  refine wpListIn_nil ?_
  refine then_n ?_
  cases b1 : (((p0).length : Int) != ((p1).length : Int))
  · rw [b1] at hk H
    replace H := bifF H
    refine x_if hk (b := false) rfl ?_
    refine (show Code.wpIn _ _ _ _ _ _ _ from ?_)
    refine wpIn_skip ?_
    refine then_n ?_
    refine x_mid (fun a_ w_ => ∃ o62 : Nat → Nat, Kn 26 a_ [] ∧ St [] w (fun _ => 0) w_ o62 ∧ tidewracklaw01_Same_j1 = some r) ?_ ?_
    rotate_left
    · rintro a w63 ⟨o62, hk, hs, H⟩
      unfold tidewracklaw01_Same_j1 at H
      refine x_seq ?_
      refine wpIn_region_lit ?_
      refine x_run tab hk (k := 1) (lv := []) (ks := [4]) (e' := [(4, .bool true)]) rfl trivial fun a hk => ?_
      refine wpListIn_nil ?_
      refine then_n ?_
      refine wpIn_ret ?_
      obtain rfl := Option.some.inj H
      exact x_retG hk (rs := [.tmp 4]) (vs := [.bool true]) rfl ⟨rfl, trivial⟩ ⟨fun b_ => if b_ < w.heap.size then o b_ else (fun _ => 0) (o62 b_), rfl, hs.close0 o (fun _ => 0)⟩
    refine x_seq ?_
    refine wpIn_region_lit ?_
    refine x_run tab hk (k := 3) (lv := []) (ks := [0, 1, 12, 13]) (e' := [(0, .slice Ap0 (p0).length cp0), (1, .slice Ap1 (p1).length cp1), (12, .int .i64 ((p0).length : Int)), (13, .int .i64 0)]) rfl trivial fun a hk => ?_
    refine wpListIn_nil ?_
    refine then_n ?_
    refine wpIn_block ?_
    refine x_loop (fun j_ a_ w_ => ∃ o83 : Nat → Nat, ∃ x84 : Int, Kn 26 a_ [(0, .slice Ap0 (p0).length cp0), (1, .slice Ap1 (p1).length cp1), (12, .int .i64 ((p0).length : Int)), (13, .int .i64 x84)] ∧ St [] w (fun _ => 0) w_ o83 ∧ Ft (RdC (encInt .i64) Ap0 p0) w_ o83 0 ∧ Ft (RdC (encInt .i64) Ap1 p1) w_ o83 0 ∧ tidewracklaw01_Same_l2 p0 p1 j_ x84 = some r) (k := K) ⟨o0, 0, (by exact Kn.pick (ks := [0, 1, 12, 13]) hk rfl), hs, f900000, f900020, H⟩ (by rintro _ _ ⟨_, _, _, _, _, _, H_⟩; exact absurd (show (none : Option Bool) = some r from H_) (by simp)) ?_
    rintro k102 a w101 ⟨o83, x84, hk, hs, f900000, f900020, H⟩
    rw [tidewracklaw01_Same_l2] at H
    obtain ⟨lp103, hlp104⟩ : ∃ lp_, lp_ = tidewracklaw01_Same_l2 p0 p1 k102 := ⟨_, rfl⟩
    rw [← hlp104] at H
    refine x_seq ?_
    refine wpIn_region_lit ?_
    refine x_run tab hk (k := 1) (lv := []) (ks := [0, 1, 12, 13, 14]) (e' := [(0, .slice Ap0 (p0).length cp0), (1, .slice Ap1 (p1).length cp1), (12, .int .i64 ((p0).length : Int)), (13, .int .i64 x84), (14, .bool (decide (x84 < ((p0).length : Int))))]) rfl trivial fun a hk => ?_
    refine wpListIn_nil ?_
    refine then_n ?_
    refine x_seq ?_
    cases b105 : (decide (x84 < ((p0).length : Int)))
    · rw [b105] at hk H
      replace H := bifF H
      refine x_if hk (b := false) rfl ?_
      refine (show Code.wpIn _ _ _ _ _ _ _ from ?_)
      refine wpIn_exit ?_
      refine then_x ?_
      refine then_x ?_
      refine blk_x ?_
      refine then_n ?_
      exact ⟨o83, (by exact Kn.pick (ks := []) hk rfl), hs, H⟩
    · rw [b105] at hk H
      replace H := bifT H
      refine x_if hk (b := true) rfl ?_
      refine (show Code.wpIn _ _ _ _ _ _ _ from ?_)
      refine wpIn_skip ?_
      refine then_n ?_
      refine x_seq ?_
      refine wpIn_block ?_
      refine x_seq ?_
      refine wpIn_region_lit ?_
      refine x_run tab hk (k := 2) (lv := []) (ks := [0, 1, 5, 12, 13]) (e' := [(0, .slice Ap0 (p0).length cp0), (1, .slice Ap1 (p1).length cp1), (5, .int .i64 x84), (12, .int .i64 ((p0).length : Int)), (13, .int .i64 x84)]) rfl trivial fun a hk => ?_
      refine wpListIn_nil ?_
      refine then_n ?_
      refine x_seq ?_
      refine xd_begin (o := o83) (fun W_ => (RdC (encInt .i64) Ap0 p0) W_ ∧ (RdC (encInt .i64) Ap1 p1) W_ ∧ True) mixed rfl rfl fun w114 st115 => ?_
      replace f900000 := f900000.st st115 (by decide)
      replace f900020 := f900020.st st115 (by decide)
      replace hs := hs.loc0 st115 (by decide)
      obtain ⟨q116, H⟩ := ifS H
      obtain ⟨ad117, hAad117⟩ := RdC.addr f900000.now q116
      have hk_C := hk
      have f900000_C := f900000
      have f900020_C := f900020
      subst hAad117
      have hk := hk_C
      clear hk_C
      have f900000 := f900000_C
      clear f900000_C
      have f900020 := f900020_C
      clear f900020_C
      refine xd_take tab hk (k := 3) (is := [0, 1, 2, 3, 4, 5]) (ls' := #[true, true, true, true, true, true, false, false, false]) (lv := [.int .i64 (rdD 0 p0 x84)]) (ks := [0, 1, 12, 13, 19, 20, 21]) (e' := [(0, .slice (some ad117) (p0).length cp0), (1, .slice Ap1 (p1).length cp1), (12, .int .i64 ((p0).length : Int)), (13, .int .i64 x84), (19, .int .i64 (rdD 0 p0 x84)), (20, .slice Ap1 (p1).length cp1), (21, .int .i64 x84)]) (by kernel_rfl) rfl rfl (by kernel_rfl) (np_then (np_blk (np_then (np_then (np_blk (np_then np_body)))))) ⟨f900000.now, f900020.now, trivial⟩ (fun W_ hS => ⟨q116, (load1 tab rfl (RdC.at0 (E := (encInt .i64)) (d := 0) (i := x84) hS.1 q116 rfl)), trivial⟩) fun a hk => ?_
      obtain ⟨q118, H⟩ := ifS H
      obtain ⟨ad119, hAad119⟩ := RdC.addr f900020.now q118
      have hk_C := hk
      have f900000_C := f900000
      have f900020_C := f900020
      subst hAad119
      have hk := hk_C
      clear hk_C
      have f900000 := f900000_C
      clear f900000_C
      have f900020 := f900020_C
      clear f900020_C
      refine xd_take tab hk (k := 0) (is := [6, 7, 8]) (ls' := #[true, true, true, true, true, true, true, true, true]) (lv := [.int .i64 (rdD 0 p1 x84)]) (ks := [0, 1, 12, 13, 24]) (e' := [(0, .slice (some ad117) (p0).length cp0), (1, .slice (some ad119) (p1).length cp1), (12, .int .i64 ((p0).length : Int)), (13, .int .i64 x84), (24, .bool ((rdD 0 p0 x84) != (rdD 0 p1 x84)))]) (by kernel_rfl) rfl rfl (by kernel_rfl) (np_then (np_blk (np_then (np_then (np_blk (np_then np_body)))))) ⟨f900000.now, f900020.now, trivial⟩ (fun W_ hS => ⟨q118, (load1 tab rfl (RdC.at0 (E := (encInt .i64)) (d := 0) (i := x84) hS.2.1 q118 rfl)), trivial⟩) fun a hk => ?_
      refine xd_done (by kernel_rfl) ?_
      refine then_n ?_
      cases b120 : ((rdD 0 p0 x84) != (rdD 0 p1 x84))
      · rw [b120] at hk H
        replace H := bifF H
        refine x_if hk (b := false) rfl ?_
        refine (show Code.wpIn _ _ _ _ _ _ _ from ?_)
        refine wpIn_skip ?_
        refine blk_n ?_
        refine then_n ?_
        refine wpIn_region_lit ?_
        refine x_run tab hk (k := 2) (lv := []) (ks := [0, 1, 12, 13]) (e' := [(0, .slice (some ad117) (p0).length cp0), (1, .slice (some ad119) (p1).length cp1), (12, .int .i64 ((p0).length : Int)), (13, .int .i64 (IntKind.wrap .i64 (x84 + 1)))]) rfl trivial fun a hk => ?_
        refine wpListIn_nil ?_
        refine then_n ?_
        exact ⟨k102, Nat.le_refl _, o83, (IntKind.wrap .i64 (x84 + 1)), (by exact Kn.pick (ks := [0, 1, 12, 13]) hk rfl), hs, f900000, f900020, (hlp104 ▸ H)⟩
      · rw [b120] at hk H
        replace H := bifT H
        refine x_if hk (b := true) rfl ?_
        refine (show Code.wpIn _ _ _ _ _ _ _ from ?_)
        refine x_seq ?_
        refine wpIn_region_lit ?_
        refine x_run tab hk (k := 1) (lv := []) (ks := [4]) (e' := [(4, .bool false)]) rfl trivial fun a hk => ?_
        refine wpListIn_nil ?_
        refine then_n ?_
        refine wpIn_ret ?_
        refine blk_r ?_
        refine then_r ?_
        refine then_r ?_
        refine blk_r ?_
        refine then_r ?_
        obtain rfl := Option.some.inj H
        exact x_retG hk (rs := [.tmp 4]) (vs := [.bool false]) rfl ⟨rfl, trivial⟩ ⟨fun b_ => if b_ < w.heap.size then o b_ else (fun _ => 0) (o83 b_), rfl, hs.close0 o (fun _ => 0)⟩
  · rw [b1] at hk H
    replace H := bifT H
    refine x_if hk (b := true) rfl ?_
    refine (show Code.wpIn _ _ _ _ _ _ _ from ?_)
    refine x_seq ?_
    refine wpIn_region_lit ?_
    refine x_run tab hk (k := 1) (lv := []) (ks := [4]) (e' := [(4, .bool false)]) rfl trivial fun a hk => ?_
    refine wpListIn_nil ?_
    refine then_n ?_
    refine wpIn_ret ?_
    refine then_r ?_
    obtain rfl := Option.some.inj H
    exact x_retG hk (rs := [.tmp 4]) (vs := [.bool false]) rfl ⟨rfl, trivial⟩ ⟨fun b_ => if b_ < w.heap.size then o b_ else (fun _ => 0) (o0 b_), rfl, hs.close0 o (fun _ => 0)⟩

end Go.Proofs.YtmolecadkgffkaaDoor
