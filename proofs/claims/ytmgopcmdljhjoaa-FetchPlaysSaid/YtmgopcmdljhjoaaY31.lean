/- Words of an own calculus over the model: how a call's frame, rows and boxes go through its operations. -/
import Derived.Test.YtmgopcmdljhjoaaY30
set_option linter.unusedSimpArgs false
set_option linter.unusedVariables false
namespace Go.Proofs.XC
open Go

/-! ### copy, into an own row -/
def cpy {α : Type} (n : Nat) (xs ys : List α) : List α := xs.take n ++ (ys.take (xs.length - n) ++ xs.drop (n + ys.length))
theorem cpy_len {α : Type} {n : Nat} {xs ys : List α} (h : n ≤ xs.length) : (cpy n xs ys).length = xs.length := by
  unfold cpy; simp only [List.length_append, List.length_take, List.length_drop]; omega
section
variable {ρ : Option Nat} {ds : List Deferred} {P : Program} {T : Tab} {n : Nat} {a : Act} {e : Env} {w w' : World} {o o' : Nat → Nat} {L : Nat} {Q : Exit → Act → World → Prop} {K : Act → World → Prop}
  {d : Option Tmp} {ty : TypeId} {pos : String} {af : Array Edge} {g : Option (Nat × Bool)} {α : Type} {E : Enc α}
/-- The rest of a row, from m on: where it is. -/
theorem ask_rest (ht : TabOK P T) {t el bb : Nat} {z : Value} {s : Nat} (hu : find T.und t = some (.slice el)) (hi : find T.inf el = some (s, bb, z)) {A : Option Addr} {len c : Nat} {k1 : IntKind} {m : Int} {x ol : Operand} (h0 : 0 ≤ m) (h1 : m ≤ (len : Int)) (h2 : len ≤ c)
    (hx : evo e x = some (.slice A len c)) (hl : evo e ol = some (.int k1 m)) : AskIs P e (Oper.mk d (.slice t x (some ol) none none) ty pos af g) (.slice (if c = m.toNat then A else A.map (·.add (m.toNat * s))) (len - m.toNat) (c - m.toNat)) w := by
  intro ρ hρ
  have hr := run_cut (P := P) (w := w) ht hu hi (A := A) (len := len) (cap := c) (lo := some (.int k1 m)) (hi' := none) rfl ⟨h0, by omega, trivial⟩
  simp [execOp, hρ _ _ hx, hρ _ _ hl, hr]
theorem copy_cells (ht : TabOK P T) {el bytes : Nat} {z : Value} (hi : find T.inf el = some (E.sz, bytes, z)) {A2 : Option Addr} {c2 : Nat} {ys : List α} (hrd : RdC E A2 ys w) {k : Nat} (hk : k ≤ ys.length) :
    (Builtin.firstCells E.sz k (.slice A2 ys.length c2)).run P w = .ok ((ys.take k).flatMap E.f).toArray w := by
  cases A2 with
  | none =>
    obtain rfl := hrd.none
    obtain rfl : k = 0 := by simpa using hk
    simp [Builtin.firstCells]
  | some ad =>
    have hl : ((ys.take k).flatMap E.f).length = k * E.sz := by rw [flat_len, List.length_take]; congr 1; omega
    have hpre : (ys.take k).flatMap E.f ++ (ys.drop k).flatMap E.f = ys.flatMap E.f := by rw [← List.flatMap_append, List.take_append_drop]
    have := run_loadCells (P := P) (w := w) (k * E.sz) 0 ad #[] ((ys.take k).flatMap E.f) hl (fun j hj => by
      have hj2 : j < ((ys.take k).flatMap E.f).length := by rw [hl]; exact hj
      rw [List.getElem?_eq_getElem hj2, Nat.zero_add]
      refine RdC.news hrd j _ ?_
      rw [← hpre, List.getElem?_append_left hj2, List.getElem?_eq_getElem hj2])
    simp [Builtin.firstCells, loadCells, this]
theorem flat_take {m : Nat} {xs : List α} (h : m ≤ xs.length) : (xs.take m).flatMap E.f = (xs.flatMap E.f).take (m * E.sz) := by
  have hpre : (xs.take m).flatMap E.f ++ (xs.drop m).flatMap E.f = xs.flatMap E.f := by rw [← List.flatMap_append, List.take_append_drop]
  have hl : ((xs.take m).flatMap E.f).length = m * E.sz := by rw [flat_len, List.length_take, Nat.min_eq_left h]
  rw [← hpre, ← hl, List.take_left]
theorem flat_drop {m : Nat} {xs : List α} (h : m ≤ xs.length) : (xs.drop m).flatMap E.f = (xs.flatMap E.f).drop (m * E.sz) := by
  have hpre : (xs.take m).flatMap E.f ++ (xs.drop m).flatMap E.f = xs.flatMap E.f := by rw [← List.flatMap_append, List.take_append_drop]
  have hl : ((xs.take m).flatMap E.f).length = m * E.sz := by rw [flat_len, List.length_take, Nat.min_eq_left h]
  rw [← hpre, ← hl, List.drop_left]
theorem op_copy (ht : TabOK P T) (hk : KnD n ds a e) {t t2 el bytes : Nat} {z : Value} {x y : Operand} {A : Option Addr} {c m : Nat} {xs ys : List α} {A2 : Option Addr} {c2 : Nat}
    (hu : find T.und t = some (.slice el)) (hi : find T.inf el = some (E.sz, bytes, z)) (hm : m ≤ xs.length) (hc : xs.length ≤ c)
    (hx : evo e x = some (.slice (if c = m then A else A.map (·.add (m * E.sz))) (xs.length - m) (c - m))) (hy : evo e y = some (.slice A2 ys.length c2)) (hown : Ft (Own E el (.slice A xs.length c) xs) w o L) (hrd : RdC E A2 ys w)
    (h : ∀ w', St [L] w o w' o → Ft (Own E el (.slice A (cpy m xs ys).length c) (cpy m xs ys)) w' o L → K (a.put d (.int .i64 ((min ys.length (xs.length - m) : Nat) : Int))) w') :
    (Oper.mk d (.call { callee := .builtin .copy, args := #[x, y], argTypes := #[t, t2] }) ty pos af g).wpIn (WF ρ) 0 P a w K Q := by
  have hev1 : a.eval x = _ := hk.ev hx
  have hev2 : a.eval y = .slice A2 ys.length c2 := hk.ev hy
  have hsl := run_underlying' (w := w) (ht.u hu)
  have hexec : ∀ (v' : Value) (w' : World), (Builtin.copy_ #[t, t2] ty #[.slice (if c = m then A else A.map (·.add (m * E.sz))) (xs.length - m) (c - m), .slice A2 ys.length c2]).run P w = .ok v' w' →
      (execOp a.eval (Oper.mk d (.call { callee := .builtin .copy, args := #[x, y], argTypes := #[t, t2] }) ty pos af g)).run P w = .ok (.value v') w' := by
    intro v' w' hr
    simp [execOp, resolve, invoke, builtin, hev1, hev2, hr]
  have hfc := copy_cells (c2 := c2) ht hi hrd (k := min ys.length (xs.length - m)) (Nat.min_le_left _ _)
  have hcl := cpy_len (ys := ys) hm
  by_cases hz : c = m
  · have hxm : xs.length = m := by omega
    have e1 : cpy m xs ys = xs := by unfold cpy; rw [hxm, Nat.sub_self, List.take_zero, List.nil_append, List.take_of_length_le (by omega), List.drop_eq_nil_of_le (by omega), List.append_nil]
    rw [if_pos hz] at hexec
    rw [e1] at h
    have hk0 : min ys.length (xs.length - m) = 0 := by omega
    rw [hk0] at hfc h
    refine op_of_run (hexec (.int .i64 0) w ?_) (h w (St.refl _ w o) hown)
    rw [List.take_zero, List.flatMap_nil] at hfc
    cases A with
    | none => simp [Builtin.copy_, hsl, run_sizeOf' ht hi, Builtin.lenOf, hfc, hk0, goInt]
    | some ad => simp [Builtin.copy_, hsl, run_sizeOf' ht hi, Builtin.lenOf, hfc, hk0, goInt, storeCells]
  · rw [if_neg hz] at hexec
    rcases hown.now.2 with ⟨hv, h0⟩ | ⟨g, cap, cur, hv, hb, hg, h1, h2, h3, h4⟩
    · injection hv with hA hk0 hc0
      omega
    · injection hv with hA hk0 hc0
      subst hA; subst hc0
      have hbx : Bx g el cur.toList w := by unfold Bx; simpa using hg
      have hl : cur.toList.length = c * E.sz := by simpa using h3
      have hx1 : xs.flatMap E.f = cur.toList.take (xs.length * E.sz) := h4.symm
      have e1 : cpy m xs ys = xs.take m ++ (ys.take (min ys.length (xs.length - m)) ++ xs.drop (m + min ys.length (xs.length - m))) := by
        unfold cpy
        by_cases c1 : ys.length ≤ xs.length - m
        · rw [Nat.min_eq_left c1, List.take_of_length_le c1, List.take_length]
        · rw [Nat.min_eq_right (by omega), List.drop_eq_nil_of_le (by omega), List.drop_eq_nil_of_le (by omega)]
      have hk1 : min ys.length (xs.length - m) ≤ ys.length := Nat.min_le_left _ _
      have hk2 : m + min ys.length (xs.length - m) ≤ xs.length := by omega
      generalize hkk : min ys.length (xs.length - m) = k at *
      have hkl : ((ys.take k).flatMap E.f).length = k * E.sz := by rw [flat_len, List.length_take]; congr 1; omega
      have hle : (m + k) * E.sz ≤ xs.length * E.sz := Nat.mul_le_mul_right _ hk2
      have hle2 : xs.length * E.sz ≤ c * E.sz := Nat.mul_le_mul_right _ hc
      rw [Nat.add_mul] at hle
      obtain ⟨w1, hr, hb1, ho1, ht1, hp1, hs1, hk1'⟩ := run_storeCells (P := P) ((ys.take k).flatMap E.f) 0 (m * E.sz) cur.toList w hbx (flat_one _) (by rw [hkl]; omega)
      have hL : o g = L := Own.lab hown g rfl
      refine op_of_run (hexec (.int .i64 (k : Int)) w1 ?_) (h w1 ⟨ho1, ht1, hp1, by omega, fun _ _ _ => rfl, fun b hb hm => hk1' b (fun e => hm (by rw [e, hL]; simp))⟩ (Own.ft ⟨by rw [flat_len], .inr ⟨g, c, (cur.toList.take (m * E.sz) ++ (ys.take k).flatMap E.f ++ cur.toList.drop (m * E.sz + ((ys.take k).flatMap E.f).length)).toArray, rfl, Nat.zero_le _, ?_, by rw [hcl]; exact h1, h2, ?_, ?_⟩⟩ (fun k hk => ?_)))
      · simp [Builtin.copy_, hsl, run_sizeOf' ht hi, Builtin.lenOf, hkk, hfc, hr, goInt]
      · unfold Bx at hb1
        simpa using hb1
      · simp only [List.size_toArray, List.length_append, List.length_take, List.length_drop, hkl, hl]
        omega
      · rw [hcl, e1, List.flatMap_append, List.flatMap_append, flat_take hm, flat_drop hk2, hx1, List.take_take, Nat.min_eq_left (by omega)]
        rw [hkl, List.append_assoc, List.take_append, List.take_append, List.length_take, List.take_take, hkl, List.drop_take, Nat.add_mul]
        congr 1
        · congr 1; omega
        · congr 1
          · rw [List.take_of_length_le (by rw [hkl]; omega)]
          · congr 1; omega
      · have : g = k := by simpa [Value.ownBlock] using hk
        rw [← this]; exact hL
theorem op_copy0 (ht : TabOK P T) (hk : KnD n ds a e) {t t2 el bytes : Nat} {z : Value} {x y : Operand} {A : Option Addr} {c : Nat} {xs ys : List α} {A2 : Option Addr} {c2 : Nat}
    (hu : find T.und t = some (.slice el)) (hi : find T.inf el = some (E.sz, bytes, z)) (hc : xs.length ≤ c)
    (hx : evo e x = some (.slice A xs.length c)) (hy : evo e y = some (.slice A2 ys.length c2)) (hown : Ft (Own E el (.slice A xs.length c) xs) w o L) (hrd : RdC E A2 ys w)
    (h : ∀ w', St [L] w o w' o → Ft (Own E el (.slice A (cpy 0 xs ys).length c) (cpy 0 xs ys)) w' o L → K (a.put d (.int .i64 ((min ys.length (xs.length - 0) : Nat) : Int))) w') :
    (Oper.mk d (.call { callee := .builtin .copy, args := #[x, y], argTypes := #[t, t2] }) ty pos af g).wpIn (WF ρ) 0 P a w K Q := by
  refine op_copy ht hk hu hi (m := 0) (Nat.zero_le _) hc ?_ hy hown hrd h
  have e3 : (if c = 0 then A else A.map (·.add (0 * E.sz))) = A := by
    split
    · rfl
    · cases A <;> simp [Addr.add]
  rw [e3]; exact hx
end
end Go.Proofs.XC
