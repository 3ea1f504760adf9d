/- Words of an own calculus over the model: how a call's frame, rows and boxes go through its operations. -/
import Derived.Test.YtmgopcmdljhjoaaY31
set_option linter.unusedSimpArgs false
set_option linter.unusedVariables false
namespace Go.Proofs.XC
open Go

/-! ### Elements that are structs with rows -/
def CellsAt (ad : Addr) (cs : List Value) (w : World) : Prop := ∀ (j : Nat) (v : Value), cs[j]? = some v → w.cell? (ad.add j) = some v
section
variable {P : Program} {T : Tab} {w w' W : World} {o o' : Nat → Nat} {L L' F F' : Nat} {α : Type} {D : ND α} {A : Option Addr} {c : Nat} {xs ys : List α} {ad : Addr} {cs : List Value}
theorem NRd.el (h : NRd D (some ad) xs w o L F) (dx : α) {i : Int} (hi : 0 ≤ i ∧ i < (xs.length : Int)) :
    ∃ r : D.R, D.val r = rdD dx xs i ∧ Ft (fun W => CellsAt (ad.add (i.toNat * D.E.sz)) (D.E.f r) W) w o L ∧ Ft (D.inn r) w o F := by
  obtain ⟨g, e1, e2, e3⟩ := h
  have hl := map_len e1
  have hig : i.toNat < g.length := by omega
  refine ⟨g[i.toNat], ?_, e2.imp fun W hW j v hv => ?_, e3.imp fun W hW => hW _ (List.getElem_mem hig)⟩
  · rw [e1, rdD_at dx _ (i := i.toNat) (by omega) (by rw [List.length_map]; exact hig), List.getElem_map]
  · have hd : rdD g[i.toNat] g i = g[i.toNat] := rdD_at _ _ (by omega) hig
    exact RdC.at (d := g[i.toNat]) hW (i := i) (by rw [← hl]; exact hi) (by rw [hd]; exact hv)
theorem CellsAt.one (h : CellsAt ad cs w) (ht : TabOK P T) {t : TypeId} {v : Value} (ha : aggT T t = some false) (j : Nat) (hv : cs[j]? = some v) : LoadIs P t (ad.add j) v w := load1 ht ha (h j v hv)
theorem CellsAt.all (h : CellsAt ad cs w) (ht : TabOK P T) {t s b : Nat} {z : Value} (ha : aggT T t = some true) (hi : find T.inf t = some (s, b, z)) (hl : cs.length = s) : LoadIs P t ad (.agg cs.toArray) w :=
  loadN ht ha hi hl fun j hj => by
    obtain ⟨v, hv⟩ : ∃ v, cs[j]? = some v := ⟨_, List.getElem?_eq_getElem (by omega)⟩
    rw [hv]; exact h j v hv
theorem Inn.nilD (D : ND α) (w : World) (o : Nat → Nat) (F : Nat) : Ft (Inn D []) w o F := Ft.of_all (fun _ r hr => absurd hr (by simp)) _ _ _
theorem Inn.consD {r : D.R} {g : List D.R} (f : Ft (D.inn r) w o F) (h : Ft (Inn D g) w o F) : Ft (Inn D (r :: g)) w o F :=
  (f.and h).imp fun W hW r' hr => by
    rcases List.mem_cons.1 hr with rfl | hr
    · exact hW.1
    · exact hW.2 r' hr
/-- A literal of such elements. -/
theorem NOwn.litD {b el : Nat} (hb : Ft (Bx b el cs) w o L) (g : List D.R) (hc : cs = g.flatMap D.E.f) (hi : Ft (Inn D g) w o F) (hx : xs = g.map D.val) (hm : g.length ≤ 1000000) :
    NOwn D el (some ⟨b, 0, none⟩) g.length xs w o L F :=
  ⟨g, hx, hb.imp fun W hW => by
    have hl := map_len hx
    rw [hl]
    refine ⟨flat_len D.E g, .inr ⟨b, g.length, cs.toArray, rfl, Nat.zero_le _, hW, Nat.le_refl _, by simp only [maxLen]; omega, ?_, ?_⟩⟩
    · simp only [List.size_toArray, hc]; exact flat_len D.E g
    · show cs.take (g.length * D.E.sz) = _
      subst hc
      exact List.take_of_length_le (Nat.le_of_eq (flat_len D.E g)), hi⟩
end
/-! ### append, of a row of another name -/
section
variable {ρ : Option Nat} {ds : List Deferred} {P : Program} {T : Tab} {n : Nat} {a : Act} {e : Env} {w w' : World} {o o' : Nat → Nat} {L : Nat} {Q : Exit → Act → World → Prop} {K : Act → World → Prop}
  {d : Option Tmp} {ty : TypeId} {pos : String} {af : Array Edge} {g : Option (Nat × Bool)} {α : Type} {E : Enc α}
theorem append_t2 (ht : TabOK P T) {t t2 el el2 bytes len c s : Nat} {A : Option Addr} {x : Value} {z : Value} (hi : find T.inf el = some (s, bytes, z)) (h1 : P.underlying t = some (.slice el)) (h2 : P.underlying t2 = some (.slice el2)) : (Builtin.append_ #[t, t2] ty #[.slice A len c, x]).run P w = (Builtin.append_ #[t, t] ty #[.slice A len c, x]).run P w := by
  have r1 := run_underlying' (w := w) h1
  have r2 := run_underlying' (w := w) h2
  simp [Builtin.append_, r1, r2, run_sizeOf' ht hi]
theorem op_append2 (ht : TabOK P T) (hk : KnD n ds a e) {t t2 el el2 bytes : Nat} {z : Value} {s x : Operand} {A0 : Option Addr} {n0 c0 : Nat} {xs ys : List α} {A2 : Option Addr} {c2 : Nat}
    (hu : find T.und t = some (.slice el)) (hu2 : find T.und t2 = some (.slice el2)) (hi : find T.inf el = some (E.sz, bytes, z)) (hzs : z.cells.size = E.sz) (hsz : Nat.blt 0 E.sz = true) (hby : Nat.ble bytes 100000 = true)
    (hs : evo e s = some (.slice A0 n0 c0)) (hx : evo e x = some (.slice A2 ys.length c2)) (hown : Ft (Own E el (.slice A0 n0 c0) xs) w o L) (hrd : RdC E A2 ys w) (hlim : xs.length + ys.length ≤ 1000000000)
    (h : ∀ A c w' o', St [L] w o w' o' → Ft (Own E el (.slice A (xs ++ ys).length c) (xs ++ ys)) w' o' L → (xs ++ ys).length ≤ c → K (a.put d (.slice A (xs ++ ys).length c)) w') :
    (Oper.mk d (.call { callee := .builtin .append, args := #[s, x], argTypes := #[t, t2] }) ty pos af g).wpIn (WF ρ) 0 P a w K Q := by
  obtain ⟨i, hinf, his, hib, hiz⟩ := ht.i hi
  have hsz' : 0 < E.sz := by simpa [Nat.blt_eq] using hsz
  have hby' : bytes ≤ 100000 := by simpa using hby
  have hund := ht.u hu
  have hev1 : a.eval s = (.slice A0 n0 c0) := hk.ev hs
  have hev2 : a.eval x = .slice A2 ys.length c2 := hk.ev hx
  have hexec : ∀ (v' : Value) (w' : World), (Builtin.append_ #[t, t] ty #[(.slice A0 n0 c0), .slice A2 ys.length c2]).run P w = .ok v' w' →
      (execOp a.eval (Oper.mk d (.call { callee := .builtin .append, args := #[s, x], argTypes := #[t, t2] }) ty pos af g)).run P w = .ok (.value v') w' := by
    intro v' w' hr
    rw [← append_t2 ht hi (ht.u hu) (ht.u hu2)] at hr
    simp [execOp, resolve, invoke, builtin, hev1, hev2, hr]
  have hbytes : ∀ k, k ≤ 1000000000 → k * bytes ≤ 140737488355328 := fun k hk => by
    have : k * bytes ≤ 1000000000 * 100000 := Nat.mul_le_mul hk hby'
    omega
  rcases Nat.eq_zero_or_pos ys.length with h0 | h0
  · obtain rfl : ys = [] := List.eq_nil_of_length_eq_zero h0
    obtain ⟨A, c, hv, hc, hcm⟩ := hown.now.shape
    injection hv with q1 q2 q3
    subst q1 q2 q3
    have hr : (Builtin.append_ #[t, t] ty #[.slice A0 xs.length c0, .slice A2 0 c2]).run P w = .ok (.slice A0 xs.length c0) w := by
      have e1 : (Builtin.firstCells E.sz 0 (.slice A2 0 c2)).run P w = .ok #[] w := by
        cases A2 <;> simp [Builtin.firstCells, loadCells, loadCellsFrom]
      have hsl := run_underlying' (w := w) hund
      simp [Builtin.append_, hsl, run_sizeOf' ht hi, Builtin.lenOf, hc, e1]
      cases A0 <;> simp [storeCells]
    refine op_of_run (hexec _ _ hr) ?_
    have := h A0 c0 w o (St.refl _ w o) (by simpa using hown) (by simpa using hc)
    simpa using this
  · obtain ⟨ad, rfl, hcc⟩ := hrd h0
    obtain ⟨v', w1, hr, hown', hg, _, hat⟩ := run_append_own_at (P := P) w 0 t ty el i z E.sz bytes hund hinf hiz his hib hzs hsz' (.slice A0 n0 c0) xs.length (xs.flatMap E.f) hown.now ad ys.length c2 (ys.flatMap E.f)
      (flat_len E ys) (RdC.news hrd) (flat_one ys) (by simp only [maxLen]; omega) (hbytes _ hlim) (Nat.zero_le _)
    refine op_of_run (hexec _ _ hr) ?_
    have hOwn : Own E el v' (xs ++ ys) w1 := by
      unfold Own
      rw [List.length_append, List.flatMap_append]
      exact hown'
    obtain ⟨A, c, rfl, hc, _⟩ := hOwn.shape
    have hL := Own.lab hown
    refine h A c w1 (fun b => if b < w.heap.size then o b else L) ⟨hg.os, hg.tape, hg.output, hg.size, fun b hb => by simp [hb], fun b hb hm => hg.block b hb (fun e => hm (by rw [hL b e.symm]; simp))⟩
      (hOwn.ft fun k hk => ?_) hc
    rcases hat with hat | hat
    · rw [hat] at hk
      by_cases hlt : k < w.heap.size
      · simp [hlt, hL k hk]
      · simp [hlt]
    · rw [hat] at hk
      cases hk
      simp

end
end Go.Proofs.XC
