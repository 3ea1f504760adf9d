/- Words of an own calculus over the model: how a call's frame, rows and boxes go through its operations. -/
import Derived.Test.YthmlldkmgdjeoaaY42
set_option linter.unusedSimpArgs false
set_option linter.unusedVariables false
namespace Go.Proofs.XC
open Go Go.MapKept Go.Maps Go.Proofs

/-! ### Ranges over maps -/
/-- The iterator at A over a map; left: the keys that are still to come. -/
def MRng (P : Program) (kt : TypeId) (A : Option Addr) (left : List Int) (w : World) (o : Nat → Nat) (Lr Lm : Nat) : Prop :=
  ∃ (r b nn : Nat) (D : DataW Unit) (lf : Lit → Bool) (cnt : Nat) (ob om : Obj), A = some ⟨r, 0, none⟩ ∧ Ft (fun W => W.heap[r]? = some ob) w o Lr ∧ Ft (fun W => W.heap[b]? = some om) w o Lm ∧ w.ranges P kt anyR b r nn D lf cnt ∧ left.Nodup ∧ ∀ x : Int, x ∈ left ↔ lf (.int .i64 x) = true
theorem ranges_congr {P : Program} {kt : TypeId} {b r nn cnt : Nat} {D : DataW Unit} {lf : Lit → Bool} {w w' : World} (h : w.ranges P kt anyR b r nn D lf cnt) (hb : w'.heap[b]? = w.heap[b]?) (hr : w'.heap[r]? = w.heap[r]?) : w'.ranges P kt anyR b r nn D lf cnt := by
  obtain ⟨es, clock, since, seen, c0, q1, q2, q3, q4, q5, q6⟩ := h
  exact ⟨es, clock, since, seen, c0, hb.trans q1, q2, q3, q4, hr.trans q5, q6⟩
theorem heap_at_lab {k L : Nat} {ob : Obj} {w : World} {o : Nat → Nat} (h : Ft (fun W => W.heap[k]? = some ob) w o L) : o k = L := by
  by_cases ho : o k = L
  · exact ho
  · have hlt := (Array.getElem?_eq_some_iff.1 h.now).1
    have h1 := h { w with heap := w.heap.set k (.map #[] 0) hlt } (fun c hc hcl => by
      have : c ≠ k := fun e => ho (e ▸ hc)
      simp [Array.getElem?_set, Ne.symm this])
    have h2 := h { w with heap := w.heap.set k (.map #[] 1) hlt } (fun c hc hcl => by
      have : c ≠ k := fun e => ho (e ▸ hc)
      simp [Array.getElem?_set, Ne.symm this])
    simp at h1 h2
    rw [← h1] at h2
    cases h2
section
variable {ρ : Option Nat} {ds : List Deferred} {P : Program} {T : Tab} {n : Nat} {a : Act} {e : Env} {w w' W : World} {o o' : Nat → Nat} {L L' F F' Lr Lm Lr' Lm' : Nat} {Mm : List Nat} {Q : Exit → Act → World → Prop} {K : Act → World → Prop}
  {d : Option Tmp} {ty : TypeId} {pos : String} {af : Array Edge} {gd : Option (Nat × Bool)} {α : Type} {D : ND α} {ag : Bool} {A : Option Addr} {m : M α} {kt : TypeId} {left : List Int}
theorem MRng.conv (h : MRng P kt A left w o Lr Lm) (h1 : ∀ P : World → Prop, Ft P w o Lr → Ft P w' o' Lr') (h2 : ∀ P : World → Prop, Ft P w o Lm → Ft P w' o' Lm') : MRng P kt A left w' o' Lr' Lm' := by
  obtain ⟨r, b, nn, D, lf, cnt, ob, om, e1, e2, e3, e4, e5, e6⟩ := h
  exact ⟨r, b, nn, D, lf, cnt, ob, om, e1, h1 _ e2, h2 _ e3, ranges_congr e4 ((h2 _ e3).now.trans e3.now.symm) ((h1 _ e2).now.trans e2.now.symm), e5, e6⟩
theorem MRng.st (h : MRng P kt A left w o Lr Lm) (s : St Mm w o w' o') (hL : Lr ∉ Mm ∧ Lm ∉ Mm) : MRng P kt A left w' o' Lr Lm := h.conv (fun _ f => f.st s hL.1) (fun _ f => f.st s hL.2)
theorem MRng.relab (h : MRng P kt A left w o Lr Lm) (q : Nat → Nat) (hr : (q Lr, q Lm) = (Lr', Lm')) : MRng P kt A left w (fun b => q (o b)) Lr' Lm' :=
  h.conv (fun _ f => f.relab q (Prod.mk.inj hr).1) (fun _ f => f.relab q (Prod.mk.inj hr).2)
theorem MRng.now (h : MRng P kt A left w o Lr Lm) : MRng P kt A left w o Lr Lm := h
theorem has_int {H : Type} {D : DataW H} {es : List (Lit × DataW H)} (hD : D = .map es) (hk : ∀ p ∈ es, ∃ x, p.1 = .int .i64 x) (x : Int) : x ∈ intKeys D ↔ Maps.has D (.int .i64 x) = true := by
  subst hD
  rw [has_eq, List.any_eq_true]
  show x ∈ es.map (fun p => intOf p.1) ↔ _
  rw [List.mem_map]
  constructor
  · rintro ⟨p, hp', rfl⟩
    obtain ⟨a, ha⟩ := hk p hp'
    exact ⟨p, hp', by rw [ha]; simp [Lit.sameKey, intOf]⟩
  · rintro ⟨p, hp', hs⟩
    obtain ⟨a, ha⟩ := hk p hp'
    rw [ha] at hs
    exact ⟨p, hp', by rw [ha]; simpa [Lit.sameKey, intOf] using hs⟩
theorem op_mrange (ht : TabOK P T) (hk : KnD n ds a e) {mt kt et : Nat} {x : Operand} (hm : find T.und mt = some (.map kt et)) (hkt : find T.und kt = some (.int .i64)) (hx : evo e x = some (mv A)) (hf : MpN D ag A m w o Lm F) (hK : KeysOK m) (Lr : Nat)
    (h : ∀ r w' o', St [] w o w' o' → MRng P kt (some ⟨r, 0, none⟩) m.keys w' o' Lr Lm → K (a.put d (.pointer (some ⟨r, 0, none⟩))) w') :
    (Oper.mk d (.range mt x) ty pos af gd).wpIn (WF ρ) 0 P a w K Q := by
  obtain ⟨g, e1, e2, e3⟩ := hf
  subst e1
  have hK2 := keysOK_map hK
  have hg := e2.now
  obtain ⟨b, rfl⟩ : ∃ b, A = some ⟨b, 0, none⟩ := by
    rcases hg with ⟨_, rfl⟩ | ⟨b, l, rfl, _⟩
    · exact absurd hK2.1 (by simp [M.nil, M.isNil])
    · exact ⟨b, rfl⟩
  have hnd : g.keys.Nodup := by
    rcases hg with ⟨h1, _⟩ | ⟨b', l, hA, rfl, es, ck, hb, hs, he⟩
    · cases h1
    · exact ents_nodup hs he
  obtain ⟨D0, hown, hp, hsz⟩ := ownsMap_of (P := P) (t := kt) (ht.u hkt) hg hK2
  have hob : ∃ om, w.heap[b]? = some om ∧ o b = Lm := by
    rcases hg with ⟨h1, _⟩ | ⟨b', l, hA, rfl, es, ck, hb, hs, he⟩
    · cases h1
    · have : b = b' := by injection hA with hA; injection hA
      subst this
      exact ⟨_, hb, MpF.lab e2⟩
  obtain ⟨om, hb, hLb⟩ := hob
  have hbl : b < w.heap.size := (Array.getElem?_eq_some_iff.1 hb).1
  obtain ⟨w', hrun, hrg, hgr, hsize⟩ := hown.range (int_keyed (ht.u hkt)) (ht.u hm)
  have hrl := hrg.lt
  obtain ⟨or_, hor⟩ : ∃ ob, w'.heap[w.heap.size]? = some ob := ⟨_, Array.getElem?_eq_getElem hrl⟩
  refine op_of_run (v := .pointer (some ⟨w.heap.size, 0, none⟩)) (w' := w') ?_ ?_
  · simp [execOp, hk.ev hx, mv, hrun]
  · refine h w.heap.size w' (fun c => if c < w.heap.size then o c else Lr) ⟨hgr.os, hgr.tape, hgr.output, hgr.size, fun c hc _ => by simp [hc], fun c hc _ => hgr.block c hc (by simp)⟩ ?_
    have hkD : ∃ es, D0 = .map es ∧ ∀ p ∈ es, ∃ x, p.1 = .int .i64 x := by
      obtain ⟨es, ck, q1, q2, q3, q4⟩ := hown
      refine ⟨_, q4, fun p hp => ?_⟩
      obtain ⟨y, hy, rfl⟩ := List.mem_map.1 ((sorted_perm _).mem_iff.1 hp)
      obtain ⟨z, hz⟩ := q2.reads y hy
      obtain ⟨k, _, hk, _⟩ := Maps.keyOf_i64 (ht.u hkt) (WideElems.rd_key hz)
      exact ⟨k, by rw [WideElems.rg_of hz, hk]⟩
    obtain ⟨es0, hes0, hes1⟩ := hkD
    refine ⟨w.heap.size, b, g.length, D0, Maps.has D0, Maps.size D0, or_, om, rfl, fun W hW => ?_, fun W hW => ?_, hrg, by rw [M.keys_map]; exact hnd, fun x => ?_⟩
    · exact (hW w.heap.size (by simp) hrl).trans hor
    · exact (hW b (by simp [hbl, hLb]) (by omega)).trans ((hgr.block b hbl (by simp)).trans hb)
    · rw [M.keys_map, ← hp.mem_iff]
      exact has_int hes0 hes1 x
theorem op_mnext (hk : KnD n ds a e) (hkt : P.underlying kt = some (.int .i64)) {x : Operand} (hx : evo e x = some (.pointer A)) (hf : MRng P kt A left w o Lr Lm) (hne : Lr ≠ Lm)
    (h0 : left = [] → K (a.put d (.tuple #[.bool false])) w)
    (h1 : ∀ (k : Int) (v : Value) (w' : World), k ∈ left → St [Lr] w o w' o → MRng P kt A (left.erase k) w' o Lr Lm → (Instr.entry (.pointer A)).run P w' = .ok (.tuple #[.int .i64 k, v]) w' → K (a.put d (.tuple #[.bool true, .int .i64 k, v])) w') :
    (Oper.mk d (.next x false) ty pos af gd).wpIn (WF ρ) 0 P a w K Q := by
  obtain ⟨r, b, nn, D0, lf, cnt, ob, om, rfl, e2, e3, e4, e5, e6⟩ := hf
  rcases e4.next (int_keyed hkt) ty with ⟨c0, hl, hrun⟩ | ⟨key, v, kl, y, w', cnt', hkey, hlk, hv, hat, hrun, hrg, hlt, hgr, hsz, hen⟩
  · refine op_of_run (v := .tuple #[.bool false]) (w' := w) ?_ (h0 ?_)
    · simp [execOp, hk.ev hx, hrun]
    · cases left with
      | nil => rfl
      | cons z l =>
        have := (e6 z).1 (by simp)
        rw [hl] at this
        cases this
  · obtain ⟨k, rfl, rfl, _⟩ := Maps.keyOf_i64 hkt hkey
    have hLr := heap_at_lab e2
    have hLm := heap_at_lab e3
    have hbl : b < w.heap.size := (Array.getElem?_eq_some_iff.1 e3.now).1
    have hbr : b ≠ r := fun hh => hne (by rw [← hLr, ← hLm, hh])
    have hrl := hrg.lt
    obtain ⟨or_, hor⟩ : ∃ ob, w'.heap[r]? = some ob := ⟨_, Array.getElem?_eq_getElem hrl⟩
    refine op_of_run (v := .tuple #[.bool true, .int .i64 k, v]) (w' := w') ?_ (h1 k v w' ((e6 k).2 hlk) ⟨hgr.os, hgr.tape, hgr.output, hgr.size, fun _ _ _ => rfl, fun c hc hn => hgr.block c hc (fun hh => hn (by injection hh with hh; rw [hh, hLr]; simp))⟩ ?_ hen)
    · simp [execOp, hk.ev hx, hrun]
    · refine ⟨r, b, nn, D0, _, cnt', or_, om, rfl, fun W hW => (hW r hLr hrl).trans hor, fun W hW => (hW b hLm (by omega)).trans ((hgr.block b hbl (fun hh => hbr (by injection hh))).trans e3.now), hrg, e5.sublist List.erase_sublist, fun z => ?_⟩
      rw [e5.mem_erase_iff, e6 z]
      constructor
      · rintro ⟨q1, q2⟩
        simp [q2, Lit.sameKey, q1]
      · intro hq
        simp only [Bool.and_eq_true, Bool.not_eq_true', Lit.sameKey] at hq
        refine ⟨fun hh => ?_, hq.1⟩
        rw [hh] at hq
        simp at hq
theorem ask_entry {k : Int} {v : Value} {x : Operand} (hx : evo e x = some (.pointer A)) (h : (Instr.entry (.pointer A)).run P w = .ok (.tuple #[.int .i64 k, v]) w) :
    AskIs P e (Oper.mk d (.entry x) ty pos af gd) (.tuple #[.int .i64 k, v]) w := by
  intro ρ hρ
  simp [execOp, hρ _ _ hx, h]
end
theorem none_left {γ : Type} {l : List Int} {x : Option γ} {y : Option γ} {r : γ} (h : (bif l.isEmpty then x else y) = some r) (hz : l = []) : x = some r := by subst hz; exact h
theorem more_left {γ : Type} {l : List Int} {x : Option γ} {f : Int → Option γ} {r : γ} (h : (bif l.isEmpty then x else anyP l f) = some r) {k : Int} (hk : k ∈ l) : f k = some r := by
  cases l with
  | nil => cases hk
  | cons z l => exact anyP_at h hk
end Go.Proofs.XC
