/- Words of an own calculus over the model: how a call's frame, rows and boxes go through its operations. -/
import Derived.Test.YtmgopcmdljhjoaaY28
set_option linter.unusedSimpArgs false
set_option linter.unusedVariables false
namespace Go.Proofs.XC
open Go

/-! ### Rows whose elements hold rows: those stand on blocks of one label, that nothing turns -/
structure ND (α : Type) where
  R : Type
  E : Enc R
  val : R → α
  inn : R → World → Prop
def Inn {α : Type} (D : ND α) (g : List D.R) (w : World) : Prop := ∀ r ∈ g, D.inn r w
/-- The row A of the elements xs, that one may append to; its elements' rows are read. -/
def NOwn {α : Type} (D : ND α) (et : TypeId) (A : Option Addr) (c : Nat) (xs : List α) (w : World) (o : Nat → Nat) (L F : Nat) : Prop :=
  ∃ g : List D.R, xs = g.map D.val ∧ Ft (Own D.E et (.slice A xs.length c) g) w o L ∧ Ft (Inn D g) w o F
def NRd {α : Type} (D : ND α) (A : Option Addr) (xs : List α) (w : World) (o : Nat → Nat) (L F : Nat) : Prop :=
  ∃ g : List D.R, xs = g.map D.val ∧ Ft (RdC D.E A g) w o L ∧ Ft (Inn D g) w o F
section
variable {ρ' : Option Nat} {ds : List Deferred} {P : Program} {T : Tab} {n : Nat} {a : Act} {e : Env} {w w' W : World} {o o' of : Nat → Nat} {L L' F F' : Nat} {M : List Nat} {Q : Exit → Act → World → Prop} {K : Act → World → Prop}
  {d : Option Tmp} {ty : TypeId} {pos : String} {af : Array Edge} {gd : Option (Nat × Bool)} {α : Type} {D : ND α} {et : TypeId} {A : Option Addr} {c : Nat} {xs ys : List α}
theorem NOwn.conv (h : NOwn D et A c xs w o L F) (h1 : ∀ P : World → Prop, Ft P w o L → Ft P w' o' L') (h2 : ∀ P : World → Prop, Ft P w o F → Ft P w' o' F') : NOwn D et A c xs w' o' L' F' := by
  obtain ⟨g, e1, e2, e3⟩ := h
  exact ⟨g, e1, h1 _ e2, h2 _ e3⟩
theorem NRd.conv (h : NRd D A xs w o L F) (h1 : ∀ P : World → Prop, Ft P w o L → Ft P w' o' L') (h2 : ∀ P : World → Prop, Ft P w o F → Ft P w' o' F') : NRd D A xs w' o' L' F' := by
  obtain ⟨g, e1, e2, e3⟩ := h
  exact ⟨g, e1, h1 _ e2, h2 _ e3⟩
theorem NOwn.st (h : NOwn D et A c xs w o L F) (s : St M w o w' o') (hL : L ∉ M ∧ F ∉ M) : NOwn D et A c xs w' o' L F := h.conv (fun _ f => f.st s hL.1) (fun _ f => f.st s hL.2)
theorem NRd.st (h : NRd D A xs w o L F) (s : St M w o w' o') (hL : L ∉ M ∧ F ∉ M) : NRd D A xs w' o' L F := h.conv (fun _ f => f.st s hL.1) (fun _ f => f.st s hL.2)
theorem NOwn.relab (h : NOwn D et A c xs w o L F) (r : Nat → Nat) (hr : (r L, r F) = (L', F')) : NOwn D et A c xs w (fun b => r (o b)) L' F' :=
  h.conv (fun _ f => f.relab r (Prod.mk.inj hr).1) (fun _ f => f.relab r (Prod.mk.inj hr).2)
theorem NRd.relab (h : NRd D A xs w o L F) (r : Nat → Nat) (hr : (r L, r F) = (L', F')) : NRd D A xs w (fun b => r (o b)) L' F' :=
  h.conv (fun _ f => f.relab r (Prod.mk.inj hr).1) (fun _ f => f.relab r (Prod.mk.inj hr).2)
theorem map_len {R : Type} {f : R → α} {g : List R} (h : xs = g.map f) : xs.length = g.length := by rw [h, List.length_map]
theorem NOwn.rd (h : NOwn D et A c xs w o L F) : NRd D A xs w o L F := by
  obtain ⟨g, e1, e2, e3⟩ := h
  exact ⟨g, e1, e2.imp fun _ h => Own.rd h, e3⟩
theorem NOwn.nil (D : ND α) (et : TypeId) (w : World) (o : Nat → Nat) (L F : Nat) : NOwn D et none 0 ([] : List α) w o L F :=
  ⟨[], rfl, Ft.of_all (fun _ => Own.nil _ _ _) _ _ _, Ft.of_all (fun _ r hr => absurd hr (by simp)) _ _ _⟩
theorem NRd.nil (D : ND α) (A : Option Addr) (w : World) (o : Nat → Nat) (L F : Nat) : NRd D A ([] : List α) w o L F :=
  ⟨[], rfl, Ft.of_all (fun _ h => absurd h (by simp)) _ _ _, Ft.of_all (fun _ r hr => absurd hr (by simp)) _ _ _⟩
theorem NRd.addr (h : NRd D A xs w o L F) {i : Int} (hi : 0 ≤ i ∧ i < (xs.length : Int)) : ∃ ad, A = some ad := by
  obtain ⟨g, e1, e2, e3⟩ := h
  exact RdC.addr e2.now (i := i) (by rw [← map_len e1]; exact hi)
theorem NRd.nul (h : NRd D none xs w o L F) : xs = [] := by
  obtain ⟨g, e1, e2, e3⟩ := h
  rw [e1, RdC.none e2.now]; rfl
theorem NOwn.cap (h : NOwn D et A c xs w o L F) : xs.length ≤ c := by
  obtain ⟨g, e1, e2, e3⟩ := h
  exact (Own.cap e2.now).2
/-! ### Elements that are rows -/
structure NR (β : Type) where
  A : Option Addr
  c : Nat
  x : List β
def dRows {β : Type} (E : Enc β) : ND (List β) := ⟨NR β, ⟨1, fun r => [.slice r.A r.x.length r.c], fun _ => rfl, fun _ => rfl⟩, fun r => r.x, fun r w => RdC E r.A r.x w ∧ r.x.length ≤ r.c⟩
theorem NRd.row {β : Type} {E : Enc β} {xs : List (List β)} {ad : Addr} (h : NRd (dRows E) (some ad) xs w o L F) (ht : TabOK P T) {t : TypeId} (ha : aggT T t = some false) {i : Int} (hi : 0 ≤ i ∧ i < (xs.length : Int)) :
    ∃ A c, Ft (fun W => LoadIs P t (ad.add (i.toNat * 1)) (.slice A (rdD [] xs i).length c) W) w o L ∧ Ft (RdC E A (rdD [] xs i)) w o F ∧ (rdD [] xs i).length ≤ c := by
  obtain ⟨g, e1, e2, e3⟩ := h
  have hl := map_len e1
  have hig : i.toNat < g.length := by omega
  have hv : rdD [] xs i = (g[i.toNat]).x := by
    rw [e1, rdD_at [] _ (i := i.toNat) (by omega) (by rw [List.length_map]; exact hig), List.getElem_map]; rfl
  refine ⟨(g[i.toNat]).A, (g[i.toNat]).c, e2.imp fun W hW => ?_, e3.imp fun W hW => ?_, ?_⟩
  · have hd : rdD (⟨none, 0, []⟩ : NR β) g i = g[i.toNat] := rdD_at _ _ (by omega) hig
    have hi2 : 0 ≤ i ∧ i < ((List.length (α := (dRows E).R) g : Nat) : Int) := by rw [← hl]; exact hi
    have := RdC.at (d := (⟨none, 0, []⟩ : NR β)) hW (i := i) hi2 (j := 0) (v := .slice (g[i.toNat]).A (g[i.toNat]).x.length (g[i.toNat]).c) (by rw [hd]; rfl)
    rw [hv]
    refine load1 ht ha ?_
    rw [← this]
    congr 1
  · rw [hv]; exact (hW _ (List.getElem_mem hig)).1
  · rw [hv]; exact (e3.now _ (List.getElem_mem hig)).2
theorem Inn.nilF {β : Type} (E : Enc β) (w : World) (o : Nat → Nat) (F : Nat) : Ft (Inn (dRows E) []) w o F := Ft.of_all (fun _ r hr => absurd hr (by simp)) _ _ _
theorem Inn.consF {β : Type} {E : Enc β} {A : Option Addr} {c : Nat} {x : List β} {g : List (NR β)} (f : Ft (RdC E A x) w o F) (hc : x.length ≤ c) (h : Ft (Inn (dRows E) g) w o F) : Ft (Inn (dRows E) (⟨A, c, x⟩ :: g)) w o F :=
  (f.and h).imp fun W hW r hr => by
    rcases List.mem_cons.1 hr with rfl | hr
    · exact ⟨hW.1, hc⟩
    · exact hW.2 r hr
/-- A literal of rows. -/
theorem NOwn.lit {β : Type} {E : Enc β} {b el : Nat} {cs : List Value} (hb : Ft (Bx b el cs) w o L) (g : List (NR β)) (hc : cs = g.flatMap (dRows E).E.f) (hi : Ft (Inn (dRows E) g) w o F) {xs : List (List β)} (hx : xs = g.map fun r => r.x) (hm : g.length ≤ 1000000) :
    NOwn (dRows E) el (some ⟨b, 0, none⟩) g.length xs w o L F :=
  ⟨g, hx, hb.imp fun W hW => by
    have hl := map_len hx
    rw [hl]
    refine ⟨flat_len (dRows E).E g, .inr ⟨b, g.length, cs.toArray, rfl, Nat.zero_le _, hW, Nat.le_refl _, by simp only [maxLen]; omega, ?_, ?_⟩⟩
    · simp only [List.size_toArray, hc]; exact flat_len (dRows E).E g
    · show cs.take (g.length * (dRows E).E.sz) = _
      subst hc
      exact List.take_of_length_le (Nat.le_of_eq (flat_len (dRows E).E g)), hi⟩
/-! ### Operations -/
theorem op_appendN (ht : TabOK P T) (hk : KnD n ds a e) {t el bytes : Nat} {z : Value} {s x : Operand} {A2 : Option Addr} {c2 L2 : Nat}
    (hu : find T.und t = some (.slice el)) (hi : find T.inf el = some (D.E.sz, bytes, z)) (hzs : z.cells.size = D.E.sz) (hsz : Nat.blt 0 D.E.sz = true) (hby : Nat.ble bytes 100000 = true)
    (hs : evo e s = some (.slice A xs.length c)) (hx : evo e x = some (.slice A2 ys.length c2)) (hown : NOwn D el A c xs w o L F) (hrd : NRd D A2 ys w o L2 F) (hF : F ≠ L) (hlim : xs.length + ys.length ≤ 1000000000)
    (h : ∀ A c w' o', St [L] w o w' o' → NOwn D el A c (xs ++ ys) w' o' L F → (xs ++ ys).length ≤ c → K (a.put d (.slice A (xs ++ ys).length c)) w') :
    (Oper.mk d (.call { callee := .builtin .append, args := #[s, x], argTypes := #[t, t] }) ty pos af gd).wpIn (WF ρ') 0 P a w K Q := by
  obtain ⟨g1, a1, a2, a3⟩ := hown
  obtain ⟨g2, b1, b2, b3⟩ := hrd
  have l1 := map_len a1
  have l2 := map_len b1
  rw [l2] at hx
  refine op_append (o := o) (E := D.E) (xs := g1) (ys := g2) ht hk hu hi hzs hsz hby hs hx a2 b2.now (by omega) fun A c w' o' hst hft hc => ?_
  have e1 : (xs ++ ys).length = (g1 ++ g2).length := by simp only [List.length_append]; omega
  have hF' : F ∉ [L] := by simp [hF]
  rw [← e1]
  refine h A c w' o' hst ⟨g1 ++ g2, by rw [a1, b1, List.map_append], by rw [e1]; exact hft, ?_⟩ (by rw [e1]; exact hc)
  exact ((a3.st hst hF').and (b3.st hst hF')).imp fun W hW r hr => (List.mem_append.1 hr).elim (hW.1 r) (hW.2 r)
theorem ask_cutN (ht : TabOK P T) {t el bb : Nat} {z : Value} (hu : find T.und t = some (.slice el)) (hi : find T.inf el = some (D.E.sz, bb, z)) (f : NRd D A xs w o L F) (hc : xs.length ≤ c) (lo hi' : Option Value) {l h : Nat} {cs : List Prop}
    (hcut : cutP xs.length c lo hi' = some (l, h, cs)) (hp : Conj cs) (h1 : l ≤ h) (h2 : h ≤ xs.length) :
    ∃ A' c', (∀ {e : Env} {x : Operand} {ol oh : Option Operand} {d ty pos af g}, evo e x = some (.slice A xs.length c) → optV (evo e) ol = some lo → optV (evo e) oh = some hi' → ∀ W, AskIs P e (Oper.mk d (.slice t x ol oh none) ty pos af g) (.slice A' ((xs.take h).drop l).length c') W) ∧
      NRd D A' ((xs.take h).drop l) w o L F ∧ ((xs.take h).drop l).length ≤ c' := by
  obtain ⟨g, e1, e2, e3⟩ := f
  have hl := map_len e1
  have e4 : ((xs.take h).drop l).length = ((g.take h).drop l).length := by simp only [List.length_drop, List.length_take, hl]
  rw [hl] at hcut hc h2 ⊢
  obtain ⟨A', c', k1, k2, k3⟩ := ask_cut (P := P) ht hu hi e2 hc lo hi' hcut hp h1 h2
  rw [e4]
  exact ⟨A', c', k1, ⟨(g.take h).drop l, by rw [e1, List.map_drop, List.map_take], k2, e3.imp fun W hW r hr => hW r (List.mem_of_mem_take (List.mem_of_mem_drop hr))⟩, k3⟩
theorem ask_takeN (ht : TabOK P T) {t el bb : Nat} {z : Value} (hu : find T.und t = some (.slice el)) (hi : find T.inf el = some (D.E.sz, bb, z)) (f : NOwn D el A c xs w o L F) (hc : xs.length ≤ c) {k : IntKind} (m : Int)
    (h0 : 0 ≤ m) (h2 : m ≤ (xs.length : Int)) :
    ∃ A' c', (∀ {e : Env} {x oh : Operand} {d ty pos af g}, evo e x = some (.slice A xs.length c) → evo e oh = some (.int k m) → ∀ W, AskIs P e (Oper.mk d (.slice t x none (some oh) none) ty pos af g) (.slice A' (xs.take m.toNat).length c') W) ∧
      NOwn D el A' c' (xs.take m.toNat) w o L F ∧ (xs.take m.toNat).length ≤ c' := by
  obtain ⟨g, e1, e2, e3⟩ := f
  have hl := map_len e1
  have e4 : (xs.take m.toNat).length = (g.take m.toNat).length := by simp only [List.length_take, hl]
  rw [hl] at e2 hc h2 ⊢
  obtain ⟨k1, k2, k3⟩ := ask_takeE (P := P) ht hu hi e2 hc (k := k) m h0 h2
  rw [e4]
  exact ⟨A, c, k1, ⟨g.take m.toNat, by rw [e1, List.map_take], by rw [e4]; exact k2, e3.imp fun W hW r hr => hW r (List.mem_of_mem_take hr)⟩, k3⟩
/-- All blocks of one label get another. -/
theorem relab_ex (o : Nat → Nat) (r : Nat → Nat) : ∃ o' : Nat → Nat, o' = fun b => r (o b) := ⟨_, rfl⟩
end
/-! ### Labels at the end, where the first label is that of what is frozen -/
section
variable {w W W2 : World} {o oi of o1 o2 : Nat → Nat} {m : Nat} {MM N Ls Lm Sh : List Nat}
theorem St.closeF {LF : Nat} (h : St MM w oi W of) (ha : ∀ b i, oi b = i + 1 → (LF :: (Lm ++ Sh))[i]? = some (o b)) (hM : MM.all (fun l => Nat.blt 1 l && Nat.ble l (Lm.length + 1)) = true) (ρ : Nat → Nat) : St Lm w o W (cl w oi o MM ρ of) := by
  have key : ∀ b, o b ∉ Lm → oi b ∉ MM := fun b hn hx => hn (by
    have h1 := List.all_eq_true.1 hM _ hx
    simp only [Bool.and_eq_true] at h1
    have h2 : 1 < oi b := by simpa using h1.1
    have h3 : oi b ≤ Lm.length + 1 := Nat.le_of_ble_eq_true h1.2
    have h4 := ha b (oi b - 1) (by omega)
    obtain ⟨j, hj⟩ : ∃ j, oi b - 1 = j + 1 := ⟨oi b - 2, by omega⟩
    rw [hj, List.getElem?_cons_succ, List.getElem?_append_left (by omega)] at h4
    exact List.mem_of_getElem? h4)
  exact ⟨h.os, h.tape, h.output, h.size, fun b hb hn => cl_old hb (key b hn), fun b hb hn => h.kept b hb (key b hn)⟩
end
end Go.Proofs.XC
