/- Words of an own calculus over the model: how a call's frame, rows and boxes go through its operations. -/
import Derived.Test.YtmgopcmdljhjoaaY26
set_option linter.unusedSimpArgs false
set_option linter.unusedVariables false
namespace Go.Proofs.XC
open Go

/-! ### A row that is made shorter, in its place -/
section
variable {ρ : Option Nat} {ds : List Deferred} {P : Program} {T : Tab} {n : Nat} {a : Act} {e : Env} {w w' : World} {o o' : Nat → Nat} {L : Nat} {Q : Exit → Act → World → Prop} {K : Act → World → Prop}
  {d : Option Tmp} {ty : TypeId} {pos : String} {af : Array Edge} {g : Option (Nat × Bool)} {α : Type} {E : Enc α}
/-- A cut with three bounds: there is one. -/
theorem ask_cut3 (ht : TabOK P T) {t el s b : Nat} {z : Value} (hu : find T.und t = some (.slice el)) (hi : find T.inf el = some (s, b, z)) (A : Option Addr) (len c : Nat) (k1 k2 k3 : IntKind) (l h m : Int)
    (h0 : 0 ≤ l) (h1 : l ≤ h) (h2 : h ≤ m) (h3 : m ≤ (c : Int)) :
    ∃ v, ∀ {e : Env} {x ol oh om : Operand} {d ty pos af g}, evo e x = some (.slice A len c) → evo e ol = some (.int k1 l) → evo e oh = some (.int k2 h) → evo e om = some (.int k3 m) → ∀ W, AskIs P e (Oper.mk d (.slice t x (some ol) (some oh) (some om)) ty pos af g) v W := by
  refine ⟨.slice (if m.toNat = l.toNat then A else A.map (·.add (l.toNat * s))) (h.toNat - l.toNat) (m.toNat - l.toNat), fun {e x ol oh om d ty pos af g} hx hl hh hm W ρ hρ => ?_⟩
  have hr := run_underlying' (w := W) (ht.u hu)
  have hs := run_sizeOf' (P := P) (w := W) ht hi
  have e1 : 0 ≤ m ∧ m ≤ (c : Int) := by omega
  have e2 : 0 ≤ h ∧ h ≤ ((m.toNat : Nat) : Int) := by omega
  have e3 : 0 ≤ l ∧ l ≤ ((h.toNat : Nat) : Int) := by omega
  have e4 : ((m.toNat : Nat) : Int) = m := by omega
  have e5 : ((h.toNat : Nat) : Int) = h := by omega
  have h4 : 0 ≤ m := by omega
  have h5 : 0 ≤ h := by omega
  have h6 : max m 0 = m := by omega
  have h7 : max h 0 = h := by omega
  simp [execOp, hρ _ _ hx, hρ _ _ hl, hρ _ _ hh, hρ _ _ hm, Instr.sliceAt, Instr.slice, hr, hs, Instr.sliceBounds, Instr.sliceBound, asIntOf, e1, e2, e3, h0, h1, h2, h3, h4, h5, h6, h7]
/-- The first ones of an own row, where they are. -/
theorem ask_takeE (ht : TabOK P T) {t el bb : Nat} {z : Value} (hu : find T.und t = some (.slice el)) (hi : find T.inf el = some (E.sz, bb, z)) {A : Option Addr} {c : Nat} {xs : List α} (f : Ft (Own E el (.slice A xs.length c) xs) w o L) (hc : xs.length ≤ c) {k : IntKind} (m : Int)
    (h0 : 0 ≤ m) (h2 : m ≤ (xs.length : Int)) :
    (∀ {e : Env} {x oh : Operand} {d ty pos af g}, evo e x = some (.slice A xs.length c) → evo e oh = some (.int k m) → ∀ W, AskIs P e (Oper.mk d (.slice t x none (some oh) none) ty pos af g) (.slice A (xs.take m.toNat).length c) W) ∧
      Ft (Own E el (.slice A (xs.take m.toNat).length c) (xs.take m.toNat)) w o L ∧ (xs.take m.toNat).length ≤ c := by
  have hm : m.toNat ≤ xs.length := by omega
  have hl : (xs.take m.toNat).length = m.toNat := by simp [hm]
  refine ⟨fun {e x oh d ty pos af g} hx hoh W ρ hρ => ?_, f.imp fun W hW => by rw [hl]; exact hW.take hm, by rw [hl]; omega⟩
  have hr := run_cut (P := P) (w := W) ht hu hi (A := A) (len := xs.length) (cap := c) (lo := none) (hi' := some (.int k m)) rfl ⟨h0, by omega, trivial⟩
  have e3 : (if c = 0 then A else A.map (·.add (0 * E.sz))) = A := by
    split
    · rfl
    · cases A <;> simp [Addr.add]
  rw [e3] at hr
  simp [execOp, hρ _ _ hx, hρ _ _ hoh, hr, hl]
theorem Own.cap {t : TypeId} {A : Option Addr} {k c : Nat} {xs : List α} (h : Own E t (.slice A k c) xs w) : k = xs.length ∧ k ≤ c := by
  rcases h.2 with ⟨hv, h0⟩ | ⟨g, cap, cur, hv, _, _, h1, h2, _⟩
  · injection hv with hA hk hc; subst hk; subst hc; omega
  · injection hv with hA hk hc; subst hk; subst hc; omega
/-- append(s, x...), where there is room. -/
theorem op_appendI (ht : TabOK P T) (hk : KnD n ds a e) {t el bytes : Nat} {z : Value} {s x : Operand} {A : Option Addr} {c : Nat} {xs ys : List α} {A2 : Option Addr} {c2 : Nat}
    (hu : find T.und t = some (.slice el)) (hi : find T.inf el = some (E.sz, bytes, z))
    (hs : evo e s = some (.slice A xs.length c)) (hx : evo e x = some (.slice A2 ys.length c2)) (hown : Ft (Own E el (.slice A xs.length c) xs) w o L) (hrd : RdC E A2 ys w) (hfit : xs.length + ys.length ≤ c)
    (h : ∀ w', St [L] w o w' o → Ft (Own E el (.slice A (xs ++ ys).length c) (xs ++ ys)) w' o L → K (a.put d (.slice A (xs ++ ys).length c)) w') :
    (Oper.mk d (.call { callee := .builtin .append, args := #[s, x], argTypes := #[t, t] }) ty pos af g).wpIn (WF ρ) 0 P a w K Q := by
  have hev1 : a.eval s = .slice A xs.length c := hk.ev hs
  have hev2 : a.eval x = .slice A2 ys.length c2 := hk.ev hx
  have hexec : ∀ (v' : Value) (w' : World), (Builtin.append_ #[t, t] ty #[.slice A xs.length c, .slice A2 ys.length c2]).run P w = .ok v' w' →
      (execOp a.eval (Oper.mk d (.call { callee := .builtin .append, args := #[s, x], argTypes := #[t, t] }) ty pos af g)).run P w = .ok (.value v') w' := by
    intro v' w' hr
    simp [execOp, resolve, invoke, builtin, hev1, hev2, hr]
  have hsl := run_underlying' (w := w) (ht.u hu)
  have hfc : (Builtin.firstCells E.sz ys.length (.slice A2 ys.length c2)).run P w = .ok (ys.flatMap E.f).toArray w := by
    cases A2 with
    | none =>
      obtain rfl := hrd.none
      simp [Builtin.firstCells]
    | some ad =>
      have := run_loadCells (P := P) (w := w) (ys.length * E.sz) 0 ad #[] (ys.flatMap E.f) (flat_len E ys) (fun j hj => by
        obtain ⟨u, hu⟩ : ∃ u, (ys.flatMap E.f)[j]? = some u := ⟨_, List.getElem?_eq_getElem (by rw [flat_len]; exact hj)⟩
        rw [hu, Nat.zero_add]; exact RdC.news hrd j u hu)
      simp [Builtin.firstCells, loadCells, this]
  rcases hown.now.2 with ⟨hv, h0⟩ | ⟨g, cap, cur, hv, hb, hg, h1, h2, h3, h4⟩
  · injection hv with hA hk0 hc0
    subst hA; subst hc0
    have hy : ys = [] := List.eq_nil_of_length_eq_zero (by omega)
    have hxs : xs = [] := List.eq_nil_of_length_eq_zero (by omega)
    subst hy; subst hxs
    refine op_of_run (hexec (.slice none 0 0) w ?_) (by simpa using h w (St.refl _ w o) (by simpa using hown))
    have : (Builtin.firstCells E.sz 0 (.slice A2 0 c2)).run P w = .ok #[] w := by simpa using hfc
    simp [Builtin.append_, hsl, run_sizeOf' ht hi, Builtin.lenOf, this]
  · injection hv with hA hk0 hc0
    subst hA; subst hc0
    have hbx : Bx g el cur.toList w := by unfold Bx; simpa using hg
    have hl : cur.toList.length = c * E.sz := by simpa using h3
    have hle : (xs.length + ys.length) * E.sz ≤ c * E.sz := Nat.mul_le_mul_right _ hfit
    rw [Nat.add_mul] at hle
    obtain ⟨w1, hr, hb1, ho1, ht1, hp1, hs1, hk1⟩ := run_storeCells (P := P) (ys.flatMap E.f) 0 (xs.length * E.sz) cur.toList w hbx (flat_one ys) (by rw [flat_len]; omega)
    have hL : o g = L := Own.lab hown g rfl
    refine op_of_run (hexec (.slice (some ⟨g, 0, none⟩) (xs ++ ys).length c) w1 ?_) (h w1 ⟨ho1, ht1, hp1, by omega, fun _ _ _ => rfl, fun b hb hm => hk1 b (fun e => hm (by rw [e, hL]; simp))⟩ (Own.ft ⟨by rw [flat_len], .inr ⟨g, c, (cur.toList.take (xs.length * E.sz) ++ ys.flatMap E.f ++ cur.toList.drop (xs.length * E.sz + (ys.flatMap E.f).length)).toArray, rfl, Nat.zero_le _, ?_, by rw [List.length_append]; exact hfit, h2, ?_, ?_⟩⟩ (fun k hk => ?_)))
    · have hle2 : xs.length + ys.length ≤ c := hfit
      simp [Builtin.append_, hsl, run_sizeOf' ht hi, Builtin.lenOf, hle2, hfc, hr, List.length_append]
    · unfold Bx at hb1
      simpa using hb1
    · simp only [List.size_toArray, List.length_append, List.length_take, List.length_drop, flat_len]
      omega
    · simp only [List.length_append, List.flatMap_append]
      rw [h4, List.take_append_of_le_length (by rw [List.length_append, flat_len, flat_len, Nat.add_mul]; omega), List.take_of_length_le (by rw [List.length_append, flat_len, flat_len, Nat.add_mul]; omega)]
    · have : g = k := by simpa [Value.ownBlock] using hk
      rw [← this]; exact hL
/-- clear(s[len(s):h]): what is behind an own row's end. -/
theorem op_clearTail (ht : TabOK P T) (hk : KnD n ds a e) {t el bytes : Nat} {z : Value} {x : Operand} {A : Option Addr} {c hh : Nat} {xs : List α}
    (hu : find T.und t = some (.slice el)) (hi : find T.inf el = some (E.sz, bytes, z)) (hzs : z.cells.size = E.sz) (hz1 : z.cells.all (·.oneCell') = true)
    (hx : evo e x = some (.slice (if c = xs.length then A else A.map (·.add (xs.length * E.sz))) (hh - xs.length) (c - xs.length))) (hown : Ft (Own E el (.slice A xs.length c) xs) w o L) (h1' : xs.length ≤ hh) (h2' : hh ≤ c)
    (h : ∀ w', St [L] w o w' o → Ft (Own E el (.slice A xs.length c) xs) w' o L → K (a.put d (.tuple #[])) w') :
    (Oper.mk d (.call { callee := .builtin .clear, args := #[x], argTypes := #[t] }) ty pos af g).wpIn (WF ρ) 0 P a w K Q := by
  have hev : a.eval x = _ := hk.ev hx
  have hsl := run_underlying' (w := w) (ht.u hu)
  have hexec : ∀ (w' : World), (Builtin.clear_ #[t] ty #[.slice (if c = xs.length then A else A.map (·.add (xs.length * E.sz))) (hh - xs.length) (c - xs.length)]).run P w = .ok (.tuple #[]) w' →
      (execOp a.eval (Oper.mk d (.call { callee := .builtin .clear, args := #[x], argTypes := #[t] }) ty pos af g)).run P w = .ok (.value (.tuple #[])) w' := by
    intro w' hr
    simp [execOp, resolve, invoke, builtin, hev, hr]
  by_cases hz : hh = xs.length
  · subst hz
    refine op_of_run (hexec w ?_) (h w (St.refl _ w o) hown)
    rw [Nat.sub_self]
    cases hA : (if c = xs.length then A else A.map (·.add (xs.length * E.sz))) <;> simp [Builtin.clear_, hsl]
  · have hlt : xs.length < c := by omega
    rcases hown.now.2 with ⟨hv, h0⟩ | ⟨g, cap, cur, hv, hb, hg, h1, h2, h3, h4⟩
    · injection hv with hA hk0 hc0
      omega
    · injection hv with hA hk0 hc0
      subst hA; subst hc0
      have hbx : Bx g el cur.toList w := by unfold Bx; simpa using hg
      have hl : cur.toList.length = c * E.sz := by simpa using h3
      have hzl : (Builtin.zeroCells z.cells (hh - xs.length)).toList.length = (hh - xs.length) * E.sz := by simp [Builtin.zeroCells, hzs]
      have hle : hh * E.sz ≤ c * E.sz := Nat.mul_le_mul_right _ h2'
      have hle2 : xs.length * E.sz + (hh - xs.length) * E.sz = hh * E.sz := by rw [← Nat.add_mul]; congr 1; omega
      have hone : ∀ v ∈ (Builtin.zeroCells z.cells (hh - xs.length)).toList, v.oneCell' = true := by
        intro v hv
        simp only [Builtin.zeroCells, Array.toList_map, List.mem_map] at hv
        obtain ⟨i, hi1, rfl⟩ := hv
        have hi2 : i < (hh - xs.length) * z.cells.size := by simpa using hi1
        have hpos : 0 < z.cells.size := by
          rcases Nat.eq_zero_or_pos z.cells.size with h0 | h0
          · rw [h0] at hi2; omega
          · exact h0
        have hm : i % z.cells.size < z.cells.size := Nat.mod_lt _ hpos
        have := Array.all_eq_true.1 hz1 (i % z.cells.size) hm
        simpa [hm] using this
      obtain ⟨w1, hr, hb1, ho1, ht1, hp1, hs1, hk1⟩ := run_storeCells (P := P) (Builtin.zeroCells z.cells (hh - xs.length)).toList 0 (xs.length * E.sz) cur.toList w hbx hone (by rw [hzl]; omega)
      have hL : o g = L := Own.lab hown g rfl
      refine op_of_run (hexec w1 ?_) (h w1 ⟨ho1, ht1, hp1, by omega, fun _ _ _ => rfl, fun b hb hm => hk1 b (fun e => hm (by rw [e, hL]; simp))⟩ (Own.ft ⟨by rw [flat_len], .inr ⟨g, c, (cur.toList.take (xs.length * E.sz) ++ (Builtin.zeroCells z.cells (hh - xs.length)).toList ++ cur.toList.drop (xs.length * E.sz + (Builtin.zeroCells z.cells (hh - xs.length)).toList.length)).toArray, rfl, Nat.zero_le _, ?_, h1, h2, ?_, ?_⟩⟩ (fun k hk => ?_)))
      · rw [if_neg (by omega)]
        obtain ⟨m, hm⟩ : ∃ m, hh - xs.length = m + 1 := ⟨hh - xs.length - 1, by omega⟩
        rw [hm] at hr ⊢
        simp [Builtin.clear_, hsl, run_zeroValue' ht hi, hr]
      · unfold Bx at hb1
        simpa using hb1
      · simp only [List.size_toArray, List.length_append, List.length_take, List.length_drop, hzl]
        omega
      · rw [List.take_append_of_le_length (by rw [List.length_append, List.length_take]; omega), List.take_append_of_le_length (by rw [List.length_take]; omega), List.take_take, Nat.min_self, h4]
      · have : g = k := by simpa [Value.ownBlock] using hk
        rw [← this]; exact hL
/-- The cut that is cleared. -/
theorem ask_tail (ht : TabOK P T) {t el bb : Nat} {z : Value} {s : Nat} (hu : find T.und t = some (.slice el)) (hi : find T.inf el = some (s, bb, z)) {A : Option Addr} {len c : Nat} {k1 k2 : IntKind} {h : Int} {x ol oh : Operand} (h0 : 0 ≤ h) (h1 : (len : Int) ≤ h) (h2 : h ≤ (c : Int))
    (hx : evo e x = some (.slice A len c)) (hl : evo e ol = some (.int k1 len)) (hh : evo e oh = some (.int k2 h)) : AskIs P e (Oper.mk d (.slice t x (some ol) (some oh) none) ty pos af g) (.slice (if c = len then A else A.map (·.add (len * s))) (h.toNat - len) (c - len)) w := by
  intro ρ hρ
  have hr := run_cut (P := P) (w := w) ht hu hi (A := A) (len := len) (cap := c) (lo := some (.int k1 len)) (hi' := some (.int k2 h)) rfl ⟨h0, h2, by omega, by omega, trivial⟩
  simp only [Int.toNat_natCast] at hr
  simp [execOp, hρ _ _ hx, hρ _ _ hl, hρ _ _ hh, hr]
end
end Go.Proofs.XC
