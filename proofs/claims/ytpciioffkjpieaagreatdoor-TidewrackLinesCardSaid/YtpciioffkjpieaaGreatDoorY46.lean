/- Words of an own calculus over the model: how a call's frame, rows and boxes go through its operations. -/
import Derived.Test.YtpciioffkjpieaaGreatDoorY48
set_option linter.unusedSimpArgs false
set_option linter.unusedVariables false
namespace Go.Proofs.XC
open Go

/-! ### Elements that hold rows: stores, and copies in place; a cut that is the whole -/
section
variable {ρ' : Option Nat} {ds : List Deferred} {P : Program} {T : Tab} {n : Nat} {a : Act} {e : Env} {w w' W : World} {o o' : Nat → Nat} {L L' F : Nat} {M : List Nat} {Q : Exit → Act → World → Prop} {K : Act → World → Prop}
  {d : Option Tmp} {ty : TypeId} {pos : String} {af : Array Edge} {gd : Option (Nat × Bool)} {α : Type} {D : ND α} {et : TypeId} {A : Option Addr} {c : Nat} {xs ys : List α}
theorem op_storeND (ht : TabOK P T) (hk : KnD n ds a e) {t bb : Nat} {z : Value} {x y : Operand} {ad ad' : Addr} {v : Value} {r : D.R} {i : Int}
    (hi : find T.inf t = some (D.E.sz, bb, z)) (hx : evo e x = some (.pointer (some ad'))) (hy : evo e y = some v) (hown : NOwn D et (some ad) c xs w o L F) (had : ad' = ad.add (i.toNat * D.E.sz)) (hin : 0 ≤ i ∧ i < (xs.length : Int))
    (hv : v.cells.toList = D.E.f r) (h1 : (v.cells.toList.all Value.oneCell') = true) (hr : Ft (D.inn r) w o F) (hF : F ≠ L)
    (h : ∀ w' o', St [L] w o w' o' → NOwn D et (some ad) c (xs.set i.toNat (D.val r)) w' o' L F → K (a.put d undef) w') :
    (Oper.mk d (.store t x y) ty pos af gd).wpIn (WF ρ') 0 P a w K Q := by
  obtain ⟨g, e1, e2, e3⟩ := hown
  have hl := map_len e1
  rw [hl] at e2 hin
  have hs : v.cells.size = D.E.sz := by rw [← Array.length_toList, hv]; exact D.E.len r
  refine op_storeO (o := o) (E := D.E) (i := i) (j := 0) (dx := r) (y' := r) ht hk hi hx hy e2 (by rw [had]; simp [Addr.add]) hin hs h1 (by simp) ?_ fun w' o' hst hf => ?_
  · rw [List.take_zero, List.nil_append, Nat.zero_add, List.drop_eq_nil_of_le (Nat.le_of_eq (D.E.len _)), List.append_nil, hv]
  · have hF' : F ∉ [L] := by simp [hF]
    have hxs : xs.set i.toNat (D.val r) = (g.set i.toNat r).map D.val := by rw [List.map_set, ← e1]
    have hle : (xs.set i.toNat (D.val r)).length = (g.set i.toNat r).length := by rw [hxs, List.length_map]
    refine h w' o' hst ⟨g.set i.toNat r, hxs, by rw [hle]; exact hf, ?_⟩
    exact ((e3.st hst hF').and (hr.st hst hF')).imp fun W hW q hq => by
      rcases List.mem_or_eq_of_mem_set hq with hq | rfl
      · exact hW.1 q hq
      · exact hW.2
theorem op_copyN (ht : TabOK P T) (hk : KnD n ds a e) {t t2 el bytes : Nat} {z : Value} {x y : Operand} {A2 : Option Addr} {c2 L2 : Nat}
    (hu : find T.und t = some (.slice el)) (hi : find T.inf el = some (D.E.sz, bytes, z)) (hc : xs.length ≤ c)
    (hx : evo e x = some (.slice A xs.length c)) (hy : evo e y = some (.slice A2 ys.length c2)) (hown : NOwn D el A c xs w o L F) (hrd : NRd D A2 ys w o L2 F) (hF : F ≠ L)
    (h : ∀ w', St [L] w o w' o → NOwn D el A c (cpy 0 xs ys) w' o L F → K (a.put d (.int .i64 ((min ys.length (xs.length - 0) : Nat) : Int))) w') :
    (Oper.mk d (.call { callee := .builtin .copy, args := #[x, y], argTypes := #[t, t2] }) ty pos af gd).wpIn (WF ρ') 0 P a w K Q := by
  obtain ⟨g1, a1, a2, a3⟩ := hown
  obtain ⟨g2, b1, b2, b3⟩ := hrd
  have l1 := map_len a1
  have l2 := map_len b1
  rw [l1] at a2 hx hc
  rw [l2] at hy
  refine op_copy0 (o := o) (E := D.E) (xs := g1) (ys := g2) ht hk hu hi hc hx hy a2 b2.now fun w' hst hft => ?_
  have hF' : F ∉ [L] := by simp [hF]
  have hxs : cpy 0 xs ys = (cpy 0 g1 g2).map D.val := by
    unfold cpy
    simp only [List.map_append, List.map_take, List.map_drop, ← a1, ← b1, l1, l2]
  have hle : (cpy 0 xs ys).length = (cpy 0 g1 g2).length := by rw [hxs, List.length_map]
  have := h w' hst ⟨cpy 0 g1 g2, hxs, by rw [hle]; exact hft, ((a3.st hst hF').and (b3.st hst hF')).imp fun W hW q hq => by
    unfold cpy at hq
    rcases List.mem_append.1 hq with hq | hq
    · exact hW.1 q (List.mem_of_mem_take hq)
    · rcases List.mem_append.1 hq with hq | hq
      · exact hW.2 q (List.mem_of_mem_take hq)
      · exact hW.1 q (List.mem_of_mem_drop hq)⟩
  rw [l1, l2] at this
  exact this
theorem ask_cutall (ht : TabOK P T) {t el bb s : Nat} {z : Value} (hu : find T.und t = some (.slice el)) (hi : find T.inf el = some (s, bb, z)) {len : Nat} {k1 k2 : IntKind} {l h : Int} {x ol oh : Operand} (hl : l = 0) (hh : h = (len : Int)) (hc : len ≤ c)
    (hx : evo e x = some (.slice A len c)) (h1 : evo e ol = some (.int k1 l)) (h2 : evo e oh = some (.int k2 h)) : AskIs P e (Oper.mk d (.slice t x (some ol) (some oh) none) ty pos af gd) (.slice A len c) w := by
  intro ρ hρ
  subst hl hh
  have hr := run_cut (P := P) (w := w) ht hu hi (A := A) (len := len) (cap := c) (lo := some (.int k1 0)) (hi' := some (.int k2 len)) rfl ⟨by omega, by omega, by omega, by omega, trivial⟩
  have e3 : (if c = Int.toNat 0 then A else A.map (·.add (Int.toNat 0 * s))) = A := by
    split
    · rfl
    · cases A <;> simp [Addr.add]
  rw [e3] at hr
  simp [execOp, hρ _ _ hx, hρ _ _ h1, hρ _ _ h2, hr]
end
end Go.Proofs.XC
