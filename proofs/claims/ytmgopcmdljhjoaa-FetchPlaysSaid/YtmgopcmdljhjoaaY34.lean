/- Words of an own calculus over the model: how a call's frame, rows and boxes go through its operations. -/
import Derived.Test.YtmgopcmdljhjoaaY33
set_option linter.unusedSimpArgs false
set_option linter.unusedVariables false
namespace Go.Proofs.XC
open Go

/-! ### A row of rows of which the last one is own -/
section
variable {P : Program} {T : Tab} {w w' : World} {o o' : Nat → Nat} {L L' F F' X X' : Nat} {M : List Nat} {β : Type} {E : Enc β} {et it : TypeId} {A : Option Addr} {c : Nat} {xs : List (List β)}
def NLast {β : Type} (E : Enc β) (et it : TypeId) (A : Option Addr) (c : Nat) (xs : List (List β)) (w : World) (o : Nat → Nat) (L F X : Nat) : Prop :=
  ∃ (g : List (NR β)) (r : NR β), xs = (g ++ [r]).map (fun r => r.x) ∧ Ft (Own (dRows E).E et (.slice A xs.length c) (g ++ [r])) w o L ∧ Ft (Inn (dRows E) g) w o F ∧ Ft (Own E it (.slice r.A r.x.length r.c) r.x) w o X
/-- Its last element's row taken out. -/
def NHole {β : Type} (E : Enc β) (et : TypeId) (A : Option Addr) (c : Nat) (xs : List (List β)) (w : World) (o : Nat → Nat) (L F : Nat) : Prop :=
  ∃ (g : List (NR β)) (r : NR β), xs = (g ++ [r]).map (fun r => r.x) ∧ Ft (Own (dRows E).E et (.slice A xs.length c) (g ++ [r])) w o L ∧ Ft (Inn (dRows E) g) w o F
theorem NLast.conv (h : NLast E et it A c xs w o L F X) (h1 : ∀ P : World → Prop, Ft P w o L → Ft P w' o' L') (h2 : ∀ P : World → Prop, Ft P w o F → Ft P w' o' F') (h3 : ∀ P : World → Prop, Ft P w o X → Ft P w' o' X') : NLast E et it A c xs w' o' L' F' X' := by
  obtain ⟨g, r, e1, e2, e3, e4⟩ := h
  exact ⟨g, r, e1, h1 _ e2, h2 _ e3, h3 _ e4⟩
theorem NHole.conv (h : NHole E et A c xs w o L F) (h1 : ∀ P : World → Prop, Ft P w o L → Ft P w' o' L') (h2 : ∀ P : World → Prop, Ft P w o F → Ft P w' o' F') : NHole E et A c xs w' o' L' F' := by
  obtain ⟨g, r, e1, e2, e3⟩ := h
  exact ⟨g, r, e1, h1 _ e2, h2 _ e3⟩
theorem NLast.st (h : NLast E et it A c xs w o L F X) (s : St M w o w' o') (hL : L ∉ M ∧ F ∉ M ∧ X ∉ M) : NLast E et it A c xs w' o' L F X := h.conv (fun _ f => f.st s hL.1) (fun _ f => f.st s hL.2.1) (fun _ f => f.st s hL.2.2)
theorem NHole.st (h : NHole E et A c xs w o L F) (s : St M w o w' o') (hL : L ∉ M ∧ F ∉ M) : NHole E et A c xs w' o' L F := h.conv (fun _ f => f.st s hL.1) (fun _ f => f.st s hL.2)
theorem NLast.relab (h : NLast E et it A c xs w o L F X) (r : Nat → Nat) (hr : (r L, r F, r X) = (L', F', X')) : NLast E et it A c xs w (fun b => r (o b)) L' F' X' := by
  have h1 := (Prod.mk.inj hr).1
  have h2 := (Prod.mk.inj (Prod.mk.inj hr).2).1
  have h3 := (Prod.mk.inj (Prod.mk.inj hr).2).2
  exact h.conv (fun _ f => f.relab r h1) (fun _ f => f.relab r h2) (fun _ f => f.relab r h3)
/-- All of its rows frozen: the own one's label is that of what is frozen. -/
theorem NLast.freeze (h : NLast E et it A c xs w o L F F) : NOwn (dRows E) et A c xs w o L F := by
  obtain ⟨g, r, e1, e2, e3, e4⟩ := h
  exact ⟨g ++ [r], e1, e2, (e3.and e4).imp fun W hW q hq => by
    rcases List.mem_append.1 hq with hq | hq
    · exact hW.1 q hq
    · obtain rfl := List.mem_singleton.1 hq
      exact ⟨Own.rd hW.2, (Own.cap hW.2).2⟩⟩
theorem NLast.len (h : NLast E et it A c xs w o L F X) : 1 ≤ xs.length := by
  obtain ⟨g, r, rfl, _⟩ := h
  simp
theorem NLast.cap (h : NLast E et it A c xs w o L F X) : xs.length ≤ c := by
  obtain ⟨g, r, e1, e2, e3, e4⟩ := h
  exact (Own.cap e2.now).2
theorem NLast.addr (h : NLast E et it A c xs w o L F X) : ∃ ad, A = some ad := by
  obtain ⟨g, r, e1, e2, e3, e4⟩ := h
  exact RdC.addr (i := 0) (Own.rd e2.now) (show (0 : Int) ≤ 0 ∧ (0 : Int) < (((g ++ [r] : List (NR β))).length : Int) from by rw [List.length_append]; simp only [List.length_cons, List.length_nil]; omega)
/-- Its last element is loaded. -/
theorem NLast.open {ad : Addr} (h : NLast E et it (some ad) c xs w o L F X) (ht : TabOK P T) {t : TypeId} (ha : aggT T t = some false) {i : Int} (hi : 0 ≤ i ∧ i + 1 = (xs.length : Int)) :
    ∃ A' c', Ft (fun W => LoadIs P t (ad.add (i.toNat * 1)) (.slice A' (rdD [] xs i).length c') W) w o L ∧ Ft (Own E it (.slice A' (rdD [] xs i).length c') (rdD [] xs i)) w o X ∧ (rdD [] xs i).length ≤ c' ∧ NHole E et (some ad) c xs w o L F := by
  obtain ⟨g, r, e1, e2, e3, e4⟩ := h
  have hl : xs.length = g.length + 1 := by rw [e1]; simp
  have hig : i.toNat = g.length := by omega
  have hv : rdD [] xs i = r.x := by
    rw [rdD_at [] _ (i := i.toNat) (by omega) (by omega)]
    simp only [e1, hig, List.map_append, List.map_cons, List.map_nil]
    rw [List.getElem_append_right (by simp)]
    simp
  rw [hv]
  refine ⟨r.A, r.c, e2.imp fun W hW => ?_, e4, (Own.cap e4.now).2, g, r, e1, e2, e3⟩
  have hd : rdD (⟨none, 0, []⟩ : NR β) (g ++ [r]) i = r := by
    rw [rdD_at _ _ (i := i.toNat) (by omega) (by simp; omega)]
    simp only [hig]
    rw [List.getElem_append_right (Nat.le_refl _)]
    simp
  have := RdC.at (d := (⟨none, 0, []⟩ : NR β)) (Own.rd hW) (i := i) (show 0 ≤ i ∧ i < (((g ++ [r] : List (NR β))).length : Int) from by rw [List.length_append]; simp only [List.length_cons, List.length_nil]; omega) (j := 0) (v := .slice r.A r.x.length r.c) (by rw [hd]; rfl)
  refine load1 ht ha ?_
  rw [← this]
  congr 1
theorem NLast.lit {b el : Nat} {cs : List Value} (hb : Ft (Bx b el cs) w o L) (r : NR β) (hc : cs = [.slice r.A r.x.length r.c]) (hr : Ft (Own E it (.slice r.A r.x.length r.c) r.x) w o X) (F : Nat) : NLast E el it (some ⟨b, 0, none⟩) 1 [r.x] w o L F X :=
  ⟨[], r, rfl, hb.imp fun _ h_ => Own.of_box (E := (dRows E).E) (xs := [r]) h_ (by rw [hc]; rfl) (show (1 : Nat) ≤ 9223372036854775807 from by omega), Ft.of_all (fun _ q hq => by cases hq) _ _ _, hr⟩
end
/-! ### Its operations -/
section
variable {ρ' : Option Nat} {ds : List Deferred} {P : Program} {T : Tab} {n : Nat} {a : Act} {e : Env} {w w' W : World} {o o' : Nat → Nat} {L L' F X : Nat} {M : List Nat} {Q : Exit → Act → World → Prop} {K : Act → World → Prop}
  {d : Option Tmp} {ty : TypeId} {pos : String} {af : Array Edge} {gd : Option (Nat × Bool)} {β : Type} {E : Enc β} {et it : TypeId} {A : Option Addr} {c : Nat} {xs : List (List β)}
theorem set_last {α : Type} (g : List α) (r v : α) : (g ++ [r]).set g.length v = g ++ [v] := by
  induction g with
  | nil => rfl
  | cons q g ih => rw [List.cons_append, List.length_cons, List.set_cons_succ, ih]; rfl
theorem op_appendLast (ht : TabOK P T) (hk : KnD n ds a e) {t el el2 bytes : Nat} {z : Value} {s x : Operand} {A2 : Option Addr} {c2 L2 : Nat} {y : List β}
    (hu : find T.und t = some (.slice el)) (hi : find T.inf el = some (1, bytes, z)) (hzs : z.cells.size = 1) (hby : Nat.ble bytes 100000 = true)
    (hs : evo e s = some (.slice A xs.length c)) (hx : evo e x = some (.slice A2 1 c2)) (hown : NOwn (dRows E) el A c xs w o L F) (hlit : NLast E el2 it A2 c2 [y] w o L2 F X) (hF : F ≠ L ∧ X ≠ L) (hlim : xs.length + 1 ≤ 1000000000)
    (h : ∀ A c w' o', St [L] w o w' o' → NLast E el it A c (xs ++ [y]) w' o' L F X → (xs ++ [y]).length ≤ c → K (a.put d (.slice A (xs ++ [y]).length c)) w') :
    (Oper.mk d (.call { callee := .builtin .append, args := #[s, x], argTypes := #[t, t] }) ty pos af gd).wpIn (WF ρ') 0 P a w K Q := by
  obtain ⟨g1, a1, a2, a3⟩ : ∃ g : List (NR β), xs = g.map (fun r => r.x) ∧ Ft (Own (dRows E).E el (.slice A xs.length c) g) w o L ∧ Ft (Inn (dRows E) g) w o F := hown
  obtain ⟨g2, r, b1, b2, b3, b4⟩ := hlit
  have hg2 : g2 = [] := by
    have := congrArg List.length b1
    simp only [List.length_cons, List.length_nil, List.length_map, List.length_append] at this
    exact List.eq_nil_of_length_eq_zero (by omega)
  subst hg2
  have hy : y = r.x := by simpa using b1
  subst hy
  have l1 : xs.length = g1.length := by rw [a1, List.length_map]
  refine op_append (o := o) (E := (dRows E).E) (xs := g1) (ys := [r]) ht hk hu hi hzs rfl hby hs hx a2 (Own.rd b2.now) (show g1.length + 1 ≤ 1000000000 from by omega) fun A c w' o' hst hft hc => ?_
  have e1 : (xs ++ [r.x]).length = (g1 ++ [r]).length := by simp only [List.length_append, List.length_cons, List.length_nil]; omega
  have hF' : F ∉ [L] := by simp [hF.1]
  have hX' : X ∉ [L] := by simp [hF.2]
  have hh := h A c w' o' hst ⟨g1, r, by rw [a1, List.map_append]; rfl, by rw [e1]; exact hft, a3.st hst hF', b4.st hst hX'⟩ (by rw [e1]; exact hc)
  rw [e1] at hh
  exact hh
theorem op_storeLast (ht : TabOK P T) (hk : KnD n ds a e) {t bb : Nat} {z : Value} {x y : Operand} {ad : Addr} {A2 : Option Addr} {c2 : Nat} {ys : List β} {i : Int}
    (hi : find T.inf t = some (1, bb, z)) (hx : evo e x = some (.pointer (some (ad.add (i.toNat * 1))))) (hy : evo e y = some (.slice A2 ys.length c2)) (hole : NHole E et (some ad) c xs w o L F) (own : Ft (Own E it (.slice A2 ys.length c2) ys) w o X) (hin : 0 ≤ i ∧ i + 1 = (xs.length : Int)) (hF : F ≠ L ∧ X ≠ L)
    (h : ∀ w' o', St [L] w o w' o' → NLast E et it (some ad) c (xs.set i.toNat ys) w' o' L F X → K (a.put d undef) w') :
    (Oper.mk d (.store t x y) ty pos af gd).wpIn (WF ρ') 0 P a w K Q := by
  obtain ⟨g, r, e1, e2, e3⟩ := hole
  have hl : xs.length = (g ++ [r]).length := by rw [e1, List.length_map]
  have hl2 : xs.length = g.length + 1 := by rw [hl]; simp
  have hig : i.toNat = g.length := by omega
  rw [hl] at e2
  have hset : (g ++ [r]).set i.toNat (⟨A2, c2, ys⟩ : NR β) = g ++ [⟨A2, c2, ys⟩] := by
    rw [hig]; exact set_last g r _
  refine op_storeO (o := o) (E := (dRows E).E) (i := i) (j := 0) (dx := (⟨none, 0, []⟩ : NR β)) (y' := (⟨A2, c2, ys⟩ : NR β)) ht hk hi hx hy e2 (by simp [Addr.add, dRows]) (show 0 ≤ i ∧ i < (((g ++ [r] : List (NR β))).length : Int) from by rw [← hl]; omega) rfl rfl rfl rfl fun w' o' hst hf => ?_
  have hf : Ft (Own (dRows E).E et (.slice (some ad) ((g ++ [r]).set i.toNat (⟨A2, c2, ys⟩ : NR β)).length c) ((g ++ [r]).set i.toNat (⟨A2, c2, ys⟩ : NR β))) w' o' L := hf
  rw [hset] at hf
  have hF' : F ∉ [L] := by simp [hF.1]
  have hX' : X ∉ [L] := by simp [hF.2]
  have hxs : xs.set i.toNat ys = (g ++ [(⟨A2, c2, ys⟩ : NR β)]).map (fun r => r.x) := by
    rw [← hset, List.map_set, ← e1]
  have hle : (xs.set i.toNat ys).length = (g ++ [(⟨A2, c2, ys⟩ : NR β)]).length := by rw [hxs, List.length_map]
  exact h w' o' hst ⟨g, ⟨A2, c2, ys⟩, hxs, by rw [hle]; exact hf, e3.st hst hF', own.st hst hX'⟩
end
end Go.Proofs.XC
