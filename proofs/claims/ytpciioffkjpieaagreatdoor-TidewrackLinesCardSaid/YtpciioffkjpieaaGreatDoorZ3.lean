/- Words of an own calculus over the model: how a call's frame, rows and boxes go through its operations. -/
import Derived.Test.YtpciioffkjpieaaGreatDoorZ2
set_option linter.unusedSimpArgs false
set_option linter.unusedVariables false
namespace Go.Proofs.XC
open Go

/-! ### copy, into an own row -/
def cpy {α : Type} (n : Nat) (xs ys : List α) : List α := xs.take n ++ (ys.take (xs.length - n) ++ xs.drop (n + ys.length))
theorem cpy_len {α : Type} {n : Nat} {xs ys : List α} (h : n ≤ xs.length) : (cpy n xs ys).length = xs.length := by
  unfold cpy; simp only [List.length_append, List.length_take, List.length_drop]; omega
section
variable {ρ : Option Nat} {ds : List Deferred} {P : Program} {T : Tab} {n : Nat} {a : Act} {e : Env} {w w' : World} {o o' : Nat → Nat} {L : Nat} {Q : Exit → Act → World → Prop} {K : Act → World → Prop}
  {d : Option Tmp} {ty : TypeId} {pos : String} {af : Array Edge} {g : Option (Nat × Bool)} {α : Type} {E : Enc α}
/-- The rest of a row, from m on: where it is. -/
theorem ask_rest (ht : TabOK P T) {t el bb : Nat} {z : Value} {s : Nat} (hu : find T.und t = some (.slice el)) (hi : find T.inf el = some (s, bb, z)) {A : Option Addr} {len c : Nat} {k1 : IntKind} {m : Int} {x ol : Operand} (h0 : 0 ≤ m) (h1 : m ≤ (len : Int)) (h2 : len ≤ c)
    (hx : evo e x = some (.slice A len c)) (hl : evo e ol = some (.int k1 m)) : AskIs P e (Oper.mk d (.slice t x (some ol) none none) ty pos af g) (.slice (if c = m.toNat then A else A.map (·.add (m.toNat * s))) (len - m.toNat) (c - m.toNat)) w := by
  intro ρ hρ
  have hr := run_cut (P := P) (w := w) ht hu hi (A := A) (len := len) (cap := c) (lo := some (.int k1 m)) (hi' := none) rfl ⟨h0, by omega, trivial⟩
  simp [execOp, hρ _ _ hx, hρ _ _ hl, hr]
theorem copy_cells (ht : TabOK P T) {el bytes : Nat} {z : Value} (hi : find T.inf el = some (E.sz, bytes, z)) {A2 : Option Addr} {c2 : Nat} {ys : List α} (hrd : RdC E A2 ys w) {k : Nat} (hk : k ≤ ys.length) :
    (Builtin.firstCells E.sz k (.slice A2 ys.length c2)).run P w = .ok ((ys.take k).flatMap E.f).toArray w := by
  cases A2 with
  | none =>
    obtain rfl := hrd.none
    obtain rfl : k = 0 := by simpa using hk
    simp [Builtin.firstCells]
  | some ad =>
    have hl : ((ys.take k).flatMap E.f).length = k * E.sz := by rw [flat_len, List.length_take]; congr 1; omega
    have hpre : (ys.take k).flatMap E.f ++ (ys.drop k).flatMap E.f = ys.flatMap E.f := by rw [← List.flatMap_append, List.take_append_drop]
    have := run_loadCells (P := P) (w := w) (k * E.sz) 0 ad #[] ((ys.take k).flatMap E.f) hl (fun j hj => by
      have hj2 : j < ((ys.take k).flatMap E.f).length := by rw [hl]; exact hj
      rw [List.getElem?_eq_getElem hj2, Nat.zero_add]
      refine RdC.news hrd j _ ?_
      rw [← hpre, List.getElem?_append_left hj2, List.getElem?_eq_getElem hj2])
    simp [Builtin.firstCells, loadCells, this]
theorem flat_take {m : Nat} {xs : List α} (h : m ≤ xs.length) : (xs.take m).flatMap E.f = (xs.flatMap E.f).take (m * E.sz) := by
  have hpre : (xs.take m).flatMap E.f ++ (xs.drop m).flatMap E.f = xs.flatMap E.f := by rw [← List.flatMap_append, List.take_append_drop]
  have hl : ((xs.take m).flatMap E.f).length = m * E.sz := by rw [flat_len, List.length_take, Nat.min_eq_left h]
  rw [← hpre, ← hl, List.take_left]
theorem flat_drop {m : Nat} {xs : List α} (h : m ≤ xs.length) : (xs.drop m).flatMap E.f = (xs.flatMap E.f).drop (m * E.sz) := by
  have hpre : (xs.take m).flatMap E.f ++ (xs.drop m).flatMap E.f = xs.flatMap E.f := by rw [← List.flatMap_append, List.take_append_drop]
  have hl : ((xs.take m).flatMap E.f).length = m * E.sz := by rw [flat_len, List.length_take, Nat.min_eq_left h]
  rw [← hpre, ← hl, List.drop_left]
theorem op_copy (ht : TabOK P T) (hk : KnD n ds a e) {t t2 el bytes : Nat} {z : Value} {x y : Operand} {A : Option Addr} {c m : Nat} {xs ys : List α} {A2 : Option Addr} {c2 : Nat}
    (hu : find T.und t = some (.slice el)) (hi : find T.inf el = some (E.sz, bytes, z)) (hm : m ≤ xs.length) (hc : xs.length ≤ c)
    (hx : evo e x = some (.slice (if c = m then A else A.map (·.add (m * E.sz))) (xs.length - m) (c - m))) (hy : evo e y = some (.slice A2 ys.length c2)) (hown : Ft (Own E el (.slice A xs.length c) xs) w o L) (hrd : RdC E A2 ys w)
    (h : ∀ w', St [L] w o w' o → Ft (Own E el (.slice A (cpy m xs ys).length c) (cpy m xs ys)) w' o L → K (a.put d (.int .i64 ((min ys.length (xs.length - m) : Nat) : Int))) w') :
    (Oper.mk d (.call { callee := .builtin .copy, args := #[x, y], argTypes := #[t, t2] }) ty pos af g).wpIn (WF ρ) 0 P a w K Q := by
  have hev1 : a.eval x = _ := hk.ev hx
  have hev2 : a.eval y = .slice A2 ys.length c2 := hk.ev hy
  have hsl := run_underlying' (w := w) (ht.u hu)
  have hexec : ∀ (v' : Value) (w' : World), (Builtin.copy_ #[t, t2] ty #[.slice (if c = m then A else A.map (·.add (m * E.sz))) (xs.length - m) (c - m), .slice A2 ys.length c2]).run P w = .ok v' w' →
      (execOp a.eval (Oper.mk d (.call { callee := .builtin .copy, args := #[x, y], argTypes := #[t, t2] }) ty pos af g)).run P w = .ok (.value v') w' := by
    intro v' w' hr
    simp [execOp, resolve, invoke, builtin, hev1, hev2, hr]
  have hfc := copy_cells (c2 := c2) ht hi hrd (k := min ys.length (xs.length - m)) (Nat.min_le_left _ _)
  have hcl := cpy_len (ys := ys) hm
  by_cases hz : c = m
  · have hxm : xs.length = m := by omega
    have e1 : cpy m xs ys = xs := by unfold cpy; rw [hxm, Nat.sub_self, List.take_zero, List.nil_append, List.take_of_length_le (by omega), List.drop_eq_nil_of_le (by omega), List.append_nil]
    rw [if_pos hz] at hexec
    rw [e1] at h
    have hk0 : min ys.length (xs.length - m) = 0 := by omega
    rw [hk0] at hfc h
    refine op_of_run (hexec (.int .i64 0) w ?_) (h w (St.refl _ w o) hown)
    rw [List.take_zero, List.flatMap_nil] at hfc
    cases A with
    | none => simp [Builtin.copy_, hsl, run_sizeOf' ht hi, Builtin.lenOf, hfc, hk0, goInt]
    | some ad => simp [Builtin.copy_, hsl, run_sizeOf' ht hi, Builtin.lenOf, hfc, hk0, goInt, storeCells]
  · rw [if_neg hz] at hexec
    rcases hown.now.2 with ⟨hv, h0⟩ | ⟨g, cap, cur, hv, hb, hg, h1, h2, h3, h4⟩
    · injection hv with hA hk0 hc0
      omega
    · injection hv with hA hk0 hc0
      subst hA; subst hc0
      have hbx : Bx g el cur.toList w := by unfold Bx; simpa using hg
      have hl : cur.toList.length = c * E.sz := by simpa using h3
      have hx1 : xs.flatMap E.f = cur.toList.take (xs.length * E.sz) := h4.symm
      have e1 : cpy m xs ys = xs.take m ++ (ys.take (min ys.length (xs.length - m)) ++ xs.drop (m + min ys.length (xs.length - m))) := by
        unfold cpy
        by_cases c1 : ys.length ≤ xs.length - m
        · rw [Nat.min_eq_left c1, List.take_of_length_le c1, List.take_length]
        · rw [Nat.min_eq_right (by omega), List.drop_eq_nil_of_le (by omega), List.drop_eq_nil_of_le (by omega)]
      have hk1 : min ys.length (xs.length - m) ≤ ys.length := Nat.min_le_left _ _
      have hk2 : m + min ys.length (xs.length - m) ≤ xs.length := by omega
      generalize hkk : min ys.length (xs.length - m) = k at *
      have hkl : ((ys.take k).flatMap E.f).length = k * E.sz := by rw [flat_len, List.length_take]; congr 1; omega
      have hle : (m + k) * E.sz ≤ xs.length * E.sz := Nat.mul_le_mul_right _ hk2
      have hle2 : xs.length * E.sz ≤ c * E.sz := Nat.mul_le_mul_right _ hc
      rw [Nat.add_mul] at hle
      obtain ⟨w1, hr, hb1, ho1, ht1, hp1, hs1, hk1'⟩ := run_storeCells (P := P) ((ys.take k).flatMap E.f) 0 (m * E.sz) cur.toList w hbx (flat_one _) (by rw [hkl]; omega)
      have hL : o g = L := Own.lab hown g rfl
      refine op_of_run (hexec (.int .i64 (k : Int)) w1 ?_) (h w1 ⟨ho1, ht1, hp1, by omega, fun _ _ _ => rfl, fun b hb hm => hk1' b (fun e => hm (by rw [e, hL]; simp))⟩ (Own.ft ⟨by rw [flat_len], .inr ⟨g, c, (cur.toList.take (m * E.sz) ++ (ys.take k).flatMap E.f ++ cur.toList.drop (m * E.sz + ((ys.take k).flatMap E.f).length)).toArray, rfl, Nat.zero_le _, ?_, by rw [hcl]; exact h1, h2, ?_, ?_⟩⟩ (fun k hk => ?_)))
      · simp [Builtin.copy_, hsl, run_sizeOf' ht hi, Builtin.lenOf, hkk, hfc, hr, goInt]
      · unfold Bx at hb1
        simpa using hb1
      · simp only [List.size_toArray, List.length_append, List.length_take, List.length_drop, hkl, hl]
        omega
      · rw [hcl, e1, List.flatMap_append, List.flatMap_append, flat_take hm, flat_drop hk2, hx1, List.take_take, Nat.min_eq_left (by omega)]
        rw [hkl, List.append_assoc, List.take_append, List.take_append, List.length_take, List.take_take, hkl, List.drop_take, Nat.add_mul]
        congr 1
        · congr 1; omega
        · congr 1
          · rw [List.take_of_length_le (by rw [hkl]; omega)]
          · congr 1; omega
      · have : g = k := by simpa [Value.ownBlock] using hk
        rw [← this]; exact hL
theorem op_copy0 (ht : TabOK P T) (hk : KnD n ds a e) {t t2 el bytes : Nat} {z : Value} {x y : Operand} {A : Option Addr} {c : Nat} {xs ys : List α} {A2 : Option Addr} {c2 : Nat}
    (hu : find T.und t = some (.slice el)) (hi : find T.inf el = some (E.sz, bytes, z)) (hc : xs.length ≤ c)
    (hx : evo e x = some (.slice A xs.length c)) (hy : evo e y = some (.slice A2 ys.length c2)) (hown : Ft (Own E el (.slice A xs.length c) xs) w o L) (hrd : RdC E A2 ys w)
    (h : ∀ w', St [L] w o w' o → Ft (Own E el (.slice A (cpy 0 xs ys).length c) (cpy 0 xs ys)) w' o L → K (a.put d (.int .i64 ((min ys.length (xs.length - 0) : Nat) : Int))) w') :
    (Oper.mk d (.call { callee := .builtin .copy, args := #[x, y], argTypes := #[t, t2] }) ty pos af g).wpIn (WF ρ) 0 P a w K Q := by
  refine op_copy ht hk hu hi (m := 0) (Nat.zero_le _) hc ?_ hy hown hrd h
  have e3 : (if c = 0 then A else A.map (·.add (0 * E.sz))) = A := by
    split
    · rfl
    · cases A <;> simp [Addr.add]
  rw [e3]; exact hx
end
end Go.Proofs.XC

set_option linter.unusedSimpArgs false
set_option linter.unusedVariables false
namespace Go.Proofs.XC
open Go

/-! ### Elements that are structs with rows -/
def CellsAt (ad : Addr) (cs : List Value) (w : World) : Prop := ∀ (j : Nat) (v : Value), cs[j]? = some v → w.cell? (ad.add j) = some v
section
variable {P : Program} {T : Tab} {w w' W : World} {o o' : Nat → Nat} {L L' F F' : Nat} {α : Type} {D : ND α} {A : Option Addr} {c : Nat} {xs ys : List α} {ad : Addr} {cs : List Value}
theorem NRd.el (h : NRd D (some ad) xs w o L F) (dx : α) {i : Int} (hi : 0 ≤ i ∧ i < (xs.length : Int)) :
    ∃ r : D.R, D.val r = rdD dx xs i ∧ Ft (fun W => CellsAt (ad.add (i.toNat * D.E.sz)) (D.E.f r) W) w o L ∧ Ft (D.inn r) w o F := by
  obtain ⟨g, e1, e2, e3⟩ := h
  have hl := map_len e1
  have hig : i.toNat < g.length := by omega
  refine ⟨g[i.toNat], ?_, e2.imp fun W hW j v hv => ?_, e3.imp fun W hW => hW _ (List.getElem_mem hig)⟩
  · rw [e1, rdD_at dx _ (i := i.toNat) (by omega) (by rw [List.length_map]; exact hig), List.getElem_map]
  · have hd : rdD g[i.toNat] g i = g[i.toNat] := rdD_at _ _ (by omega) hig
    exact RdC.at (d := g[i.toNat]) hW (i := i) (by rw [← hl]; exact hi) (by rw [hd]; exact hv)
theorem CellsAt.one (h : CellsAt ad cs w) (ht : TabOK P T) {t : TypeId} {v : Value} (ha : aggT T t = some false) (j : Nat) (hv : cs[j]? = some v) : LoadIs P t (ad.add j) v w := load1 ht ha (h j v hv)
theorem CellsAt.all (h : CellsAt ad cs w) (ht : TabOK P T) {t s b : Nat} {z : Value} (ha : aggT T t = some true) (hi : find T.inf t = some (s, b, z)) (hl : cs.length = s) : LoadIs P t ad (.agg cs.toArray) w :=
  loadN ht ha hi hl fun j hj => by
    obtain ⟨v, hv⟩ : ∃ v, cs[j]? = some v := ⟨_, List.getElem?_eq_getElem (by omega)⟩
    rw [hv]; exact h j v hv
theorem Inn.nilD (D : ND α) (w : World) (o : Nat → Nat) (F : Nat) : Ft (Inn D []) w o F := Ft.of_all (fun _ r hr => absurd hr (by simp)) _ _ _
theorem Inn.consD {r : D.R} {g : List D.R} (f : Ft (D.inn r) w o F) (h : Ft (Inn D g) w o F) : Ft (Inn D (r :: g)) w o F :=
  (f.and h).imp fun W hW r' hr => by
    rcases List.mem_cons.1 hr with rfl | hr
    · exact hW.1
    · exact hW.2 r' hr
/-- A literal of such elements. -/
theorem NOwn.litD {b el : Nat} (hb : Ft (Bx b el cs) w o L) (g : List D.R) (hc : cs = g.flatMap D.E.f) (hi : Ft (Inn D g) w o F) (hx : xs = g.map D.val) (hm : g.length ≤ 1000000) :
    NOwn D el (some ⟨b, 0, none⟩) g.length xs w o L F :=
  ⟨g, hx, hb.imp fun W hW => by
    have hl := map_len hx
    rw [hl]
    refine ⟨flat_len D.E g, .inr ⟨b, g.length, cs.toArray, rfl, Nat.zero_le _, hW, Nat.le_refl _, by simp only [maxLen]; omega, ?_, ?_⟩⟩
    · simp only [List.size_toArray, hc]; exact flat_len D.E g
    · show cs.take (g.length * D.E.sz) = _
      subst hc
      exact List.take_of_length_le (Nat.le_of_eq (flat_len D.E g)), hi⟩
end
/-! ### append, of a row of another name -/
section
variable {ρ : Option Nat} {ds : List Deferred} {P : Program} {T : Tab} {n : Nat} {a : Act} {e : Env} {w w' : World} {o o' : Nat → Nat} {L : Nat} {Q : Exit → Act → World → Prop} {K : Act → World → Prop}
  {d : Option Tmp} {ty : TypeId} {pos : String} {af : Array Edge} {g : Option (Nat × Bool)} {α : Type} {E : Enc α}
end
end Go.Proofs.XC

set_option linter.unusedSimpArgs false
set_option linter.unusedVariables false
namespace Go.Proofs.XC
open Go

/-! ### Arguments that are rows of structs with rows -/
section
variable {P : Program} {T : Tab} {w : World} {H : Type} {enc : TypeId × Value → H} {spare : Nat → Bool} {held : Bool}
end
end Go.Proofs.XC

set_option linter.unusedSimpArgs false
set_option linter.unusedVariables false
namespace Go.Proofs.XC
open Go

/-! ### A row of rows of which the last one is own -/
section
variable {P : Program} {T : Tab} {w w' : World} {o o' : Nat → Nat} {L L' F F' X X' : Nat} {M : List Nat} {β : Type} {E : Enc β} {et it : TypeId} {A : Option Addr} {c : Nat} {xs : List (List β)}
def NLast {β : Type} (E : Enc β) (et it : TypeId) (A : Option Addr) (c : Nat) (xs : List (List β)) (w : World) (o : Nat → Nat) (L F X : Nat) : Prop :=
  ∃ (g : List (NR β)) (r : NR β), xs = (g ++ [r]).map (fun r => r.x) ∧ Ft (Own (dRows E).E et (.slice A xs.length c) (g ++ [r])) w o L ∧ Ft (Inn (dRows E) g) w o F ∧ Ft (Own E it (.slice r.A r.x.length r.c) r.x) w o X
/-- Its last element's row taken out. -/
def NHole {β : Type} (E : Enc β) (et : TypeId) (A : Option Addr) (c : Nat) (xs : List (List β)) (w : World) (o : Nat → Nat) (L F : Nat) : Prop :=
  ∃ (g : List (NR β)) (r : NR β), xs = (g ++ [r]).map (fun r => r.x) ∧ Ft (Own (dRows E).E et (.slice A xs.length c) (g ++ [r])) w o L ∧ Ft (Inn (dRows E) g) w o F
theorem NLast.conv (h : NLast E et it A c xs w o L F X) (h1 : ∀ P : World → Prop, Ft P w o L → Ft P w' o' L') (h2 : ∀ P : World → Prop, Ft P w o F → Ft P w' o' F') (h3 : ∀ P : World → Prop, Ft P w o X → Ft P w' o' X') : NLast E et it A c xs w' o' L' F' X' := by
  obtain ⟨g, r, e1, e2, e3, e4⟩ := h
  exact ⟨g, r, e1, h1 _ e2, h2 _ e3, h3 _ e4⟩
theorem NHole.conv (h : NHole E et A c xs w o L F) (h1 : ∀ P : World → Prop, Ft P w o L → Ft P w' o' L') (h2 : ∀ P : World → Prop, Ft P w o F → Ft P w' o' F') : NHole E et A c xs w' o' L' F' := by
  obtain ⟨g, r, e1, e2, e3⟩ := h
  exact ⟨g, r, e1, h1 _ e2, h2 _ e3⟩
theorem NLast.st (h : NLast E et it A c xs w o L F X) (s : St M w o w' o') (hL : L ∉ M ∧ F ∉ M ∧ X ∉ M) : NLast E et it A c xs w' o' L F X := h.conv (fun _ f => f.st s hL.1) (fun _ f => f.st s hL.2.1) (fun _ f => f.st s hL.2.2)
theorem NHole.st (h : NHole E et A c xs w o L F) (s : St M w o w' o') (hL : L ∉ M ∧ F ∉ M) : NHole E et A c xs w' o' L F := h.conv (fun _ f => f.st s hL.1) (fun _ f => f.st s hL.2)
theorem NLast.relab (h : NLast E et it A c xs w o L F X) (r : Nat → Nat) (hr : (r L, r F, r X) = (L', F', X')) : NLast E et it A c xs w (fun b => r (o b)) L' F' X' := by
  have h1 := (Prod.mk.inj hr).1
  have h2 := (Prod.mk.inj (Prod.mk.inj hr).2).1
  have h3 := (Prod.mk.inj (Prod.mk.inj hr).2).2
  exact h.conv (fun _ f => f.relab r h1) (fun _ f => f.relab r h2) (fun _ f => f.relab r h3)
theorem NLast.len (h : NLast E et it A c xs w o L F X) : 1 ≤ xs.length := by
  obtain ⟨g, r, rfl, _⟩ := h
  simp
theorem NLast.cap (h : NLast E et it A c xs w o L F X) : xs.length ≤ c := by
  obtain ⟨g, r, e1, e2, e3, e4⟩ := h
  exact (Own.cap e2.now).2
theorem NLast.addr (h : NLast E et it A c xs w o L F X) : ∃ ad, A = some ad := by
  obtain ⟨g, r, e1, e2, e3, e4⟩ := h
  exact RdC.addr (i := 0) (Own.rd e2.now) (show (0 : Int) ≤ 0 ∧ (0 : Int) < (((g ++ [r] : List (NR β))).length : Int) from by rw [List.length_append]; simp only [List.length_cons, List.length_nil]; omega)
/-- Its last element is loaded. -/
theorem NLast.open {ad : Addr} (h : NLast E et it (some ad) c xs w o L F X) (ht : TabOK P T) {t : TypeId} (ha : aggT T t = some false) {i : Int} (hi : 0 ≤ i ∧ i + 1 = (xs.length : Int)) :
    ∃ A' c', Ft (fun W => LoadIs P t (ad.add (i.toNat * 1)) (.slice A' (rdD [] xs i).length c') W) w o L ∧ Ft (Own E it (.slice A' (rdD [] xs i).length c') (rdD [] xs i)) w o X ∧ (rdD [] xs i).length ≤ c' ∧ NHole E et (some ad) c xs w o L F := by
  obtain ⟨g, r, e1, e2, e3, e4⟩ := h
  have hl : xs.length = g.length + 1 := by rw [e1]; simp
  have hig : i.toNat = g.length := by omega
  have hv : rdD [] xs i = r.x := by
    rw [rdD_at [] _ (i := i.toNat) (by omega) (by omega)]
    simp only [e1, hig, List.map_append, List.map_cons, List.map_nil]
    rw [List.getElem_append_right (by simp)]
    simp
  rw [hv]
  refine ⟨r.A, r.c, e2.imp fun W hW => ?_, e4, (Own.cap e4.now).2, g, r, e1, e2, e3⟩
  have hd : rdD (⟨none, 0, []⟩ : NR β) (g ++ [r]) i = r := by
    rw [rdD_at _ _ (i := i.toNat) (by omega) (by simp; omega)]
    simp only [hig]
    rw [List.getElem_append_right (Nat.le_refl _)]
    simp
  have := RdC.at (d := (⟨none, 0, []⟩ : NR β)) (Own.rd hW) (i := i) (show 0 ≤ i ∧ i < (((g ++ [r] : List (NR β))).length : Int) from by rw [List.length_append]; simp only [List.length_cons, List.length_nil]; omega) (j := 0) (v := .slice r.A r.x.length r.c) (by rw [hd]; rfl)
  refine load1 ht ha ?_
  rw [← this]
  congr 1
theorem NLast.lit {b el : Nat} {cs : List Value} (hb : Ft (Bx b el cs) w o L) (r : NR β) (hc : cs = [.slice r.A r.x.length r.c]) (hr : Ft (Own E it (.slice r.A r.x.length r.c) r.x) w o X) (F : Nat) : NLast E el it (some ⟨b, 0, none⟩) 1 [r.x] w o L F X :=
  ⟨[], r, rfl, hb.imp fun _ h_ => Own.of_box (E := (dRows E).E) (xs := [r]) h_ (by rw [hc]; rfl) (show (1 : Nat) ≤ 9223372036854775807 from by omega), Ft.of_all (fun _ q hq => by cases hq) _ _ _, hr⟩
end
/-! ### Its operations -/
section
variable {ρ' : Option Nat} {ds : List Deferred} {P : Program} {T : Tab} {n : Nat} {a : Act} {e : Env} {w w' W : World} {o o' : Nat → Nat} {L L' F X : Nat} {M : List Nat} {Q : Exit → Act → World → Prop} {K : Act → World → Prop}
  {d : Option Tmp} {ty : TypeId} {pos : String} {af : Array Edge} {gd : Option (Nat × Bool)} {β : Type} {E : Enc β} {et it : TypeId} {A : Option Addr} {c : Nat} {xs : List (List β)}
end
end Go.Proofs.XC

set_option linter.unusedSimpArgs false
set_option linter.unusedVariables false
namespace Go.Proofs.XC
open Go
section
variable {w : World} {o : Nat → Nat} {L F X : Nat} {β : Type} {E : Enc β} {et it : TypeId} {A : Option Addr} {c : Nat} {xs : List (List β)}
end
end Go.Proofs.XC
