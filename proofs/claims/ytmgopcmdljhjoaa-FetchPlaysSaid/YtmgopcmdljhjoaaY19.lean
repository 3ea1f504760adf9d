/- Words of an own calculus over the model: how a call's frame, rows and boxes go through its operations. -/
import Derived.Test.YtmgopcmdljhjoaaY18
import Derived.RangeFuncLeaves
set_option linter.unusedSimpArgs false
set_option linter.unusedVariables false
namespace Go.Proofs.XC
open Go

/-! ### Ranges over functions -/
section
variable {P : Program} {n : Nat} {ds : List Deferred} {a : Act} {e : Env} {w : World} {o : Nat → Nat} {Q : Exit → Act → World → Prop} {K : Act → World → Prop} {α : Type}
def markD (D : Nat) : Deferred := { target := .collected D, args := #[] }
def DM (D : Nat) (w : World) : Prop := w.heap[D]? = some (.deferred (some []))
theorem St.mono {M N : List Nat} {w w' : World} {o o' : Nat → Nat} (h : St M w o w' o') (hs : ∀ l, l ∈ M → l ∈ N) : St N w o w' o' :=
  ⟨h.os, h.tape, h.output, h.size, fun b hb hn => h.lab b hb (fun hm => hn (hs _ hm)), fun b hb hn => h.kept b hb (fun hm => hn (hs _ hm))⟩
theorem putObj_st {w : World} {o : Nat → Nat} {k L : Nat} (ob : Obj) (hL : o k = L) : St [L] w o (w.putObj k ob) o :=
  ⟨rfl, rfl, rfl, by simp, fun _ _ _ => rfl, fun b _ hn => World.putObj_heap_other (fun e => hn (by rw [e, hL]; simp))⟩
theorem Ft.mark {D : Nat} {w : World} {o : Nat → Nat} {L : Nat} (h : DM D w) (ho : o D = L) : Ft (DM D) w o L := fun w' hw => by
  have hlt : D < w.heap.size := (Array.getElem?_eq_some_iff.1 h).1
  exact (hw D ho hlt).trans h
theorem Ft.mark_lab {D : Nat} {w : World} {o : Nat → Nat} {L : Nat} (h : Ft (DM D) w o L) : o D = L := by
  by_cases ho : o D = L
  · exact ho
  · have h1 : DM D w := h.now
    have hlt : D < w.heap.size := (Array.getElem?_eq_some_iff.1 h1).1
    have h2 := h { w with heap := w.heap.set D (.map #[] 0) hlt } (fun c hc hcl => by
      have : c ≠ D := fun e => ho (e ▸ hc)
      simp [Array.getElem?_set, Ne.symm this])
    unfold DM at h2
    simp at h2
/-- A call of yield: what the round makes of the world. -/
def YA (P : Program) (l : Nat) (args : List Value) (w : World) (Φ : Bool → World → Prop) : Prop :=
  ∃ fn tmps assign body, (Instr.yield l args.toArray).run P w = .ok (.round l fn tmps assign body) w ∧ RoundIn (WF none) 0 P l fn tmps assign body w (fun e w' => ∃ b, e = .returned (.bool b) ∧ Φ b w')
theorem op_yield {d : Option Tmp} {t l : Nat} {args : Array Operand} {ts : Array TypeId} {ty : TypeId} {pos : String} {af : Array Edge} {g : Option (Nat × Bool)} {vs : List Value} {Φ : Bool → World → Prop}
    (hk : KnD n ds a e) (hf : look e t = some (.func (.yield l) #[] #[])) (hv : allSome (args.toList.map (evo e)) = some vs) (hy : YA P l vs w Φ) (h : ∀ b w', Φ b w' → K (a.put d (.bool b)) w') :
    (Oper.mk d (.call { callee := .value (.tmp t), args := args, argTypes := ts }) ty pos af g).wpIn (WF none) 0 P a w K Q := by
  obtain ⟨fn, tmps, assign, body, hrun, hr⟩ := hy
  have h1 := allSome_map (ev := evo e) (ρ := a.eval) (fun x v hx => hk.ev hx) _ _ hv
  have h2 : args.map a.eval = vs.toArray := Array.toList_inj.1 (by simpa using h1)
  have h4 : a.eval (.tmp t) = .func (.yield l) #[] #[] := hk.ev (x := .tmp t) hf
  have h3 : (execOp a.eval (Oper.mk d (.call { callee := .value (.tmp t), args := args, argTypes := ts }) ty pos af g)).run P w = .ok (.round l fn tmps assign body) w := by
    simp [execOp, resolve, h4, Deferred.ofValue, invoke, h2, hrun]
  refine ⟨fun _ _ => trivial, ?_⟩
  have e : (Oper.semAt (WF none).round a.eval (Oper.mk d (.call { callee := .value (.tmp t), args := args, argTypes := ts }) ty pos af g)).run P w = .ok (.round l fn tmps assign body) w := wf_res (fun d hd => by cases hd) h3
  rw [e, Oper.uponIn_round]
  refine ⟨fun hd => (by cases hd), RoundIn.mono hr fun en w2 hr2 => ?_⟩
  obtain ⟨b, rfl, hb⟩ := hr2
  exact h b w2 hb
def EvC (Ev : α → List Value → World → Prop) (Le : Option Nat) (x : α) (vs : List Value) (W : World) (o : Nat → Nat) : Prop :=
  match Le with
  | none => ∀ w, Ev x vs w
  | some L => Ft (Ev x vs) W o L
theorem EvC.now {Ev : α → List Value → World → Prop} {Le : Option Nat} {x : α} {vs : List Value} (h : EvC Ev Le x vs w o) : Ev x vs w := by
  cases Le with
  | none => exact h w
  | some L => exact Ft.now h
/-- An iterator: it yields ys, one by one, till it is told to stop; its own blocks bear Li or Lm; it reads what bears Lr; what it hands over stands on Le. -/
def IterC (P : Program) (f : FuncId) (fi ca : List Value) (Ev : α → List Value → World → Prop) (Le : Option Nat) (ys : List α) (w : World) (o : Nat → Nat) (Lm Lr : List Nat) : Prop :=
  ∀ (l : Nat) (J : List α → World → (Nat → Nat) → Prop) (X : World → (Nat → Nat) → Prop) (w1 : World) (o1 : Nat → Nat) (My : List Nat) (Li : Nat),
    St [] w o w1 o1 → (∀ L ∈ My, L ∉ Li :: (Lm ++ Lr)) →
    (∀ rest W oW W' oW', J rest W oW → St (Li :: Lm) W oW W' oW' → J rest W' oW') → (∀ W oW W' oW', X W oW → St (Li :: Lm) W oW W' oW' → X W' oW') →
    (∀ x rest W oW vs, J (x :: rest) W oW → EvC Ev Le x vs W oW → YA P l vs W (fun b W' => ∃ oW', St My W oW W' oW' ∧ (b = true → J rest W' oW') ∧ (b = false → X W' oW'))) →
    J ys w1 o1 → Calls P f (fi ++ Value.func (.yield l) #[] #[] :: ca).toArray w1 (Ret fun _ W' => ∃ oW', J [] W' oW' ∨ X W' oW')

/-! ### Marks of ranges over functions -/
def MK (ds : List Deferred) (w : World) : Prop := ∃ Ds : List Nat, ds = Ds.map markD ∧ Ds.Nodup ∧ ∀ D ∈ Ds, DM D w
theorem MK.nil (w : World) : MK [] w := ⟨[], rfl, List.nodup_nil, by simp⟩
theorem markD_inj {D D' : Nat} (h : markD D = markD D') : D = D' := by
  unfold markD at h
  injection h with h _
  injection h
theorem map_inj : ∀ {Ds Ds' : List Nat}, Ds.map markD = Ds'.map markD → Ds = Ds'
  | [], [], _ => rfl
  | [], _ :: _, h => by simp at h
  | _ :: _, [], h => by simp at h
  | D :: Ds, D' :: Ds', h => by
    simp only [List.map_cons, List.cons.injEq] at h
    rw [markD_inj h.1, map_inj h.2]
theorem mk_cons {D L : Nat} {oW : Nat → Nat} {W : World} (h : Ft (MK ds) W oW L) (hD : DM D W) (ho : oW D = L) (hn : markD D ∉ ds) : Ft (MK (markD D :: ds)) W oW L := fun w' hw => by
  obtain ⟨Ds, rfl, hnd, hall⟩ := h w' hw
  have hlt : D < W.heap.size := (Array.getElem?_eq_some_iff.1 hD).1
  refine ⟨D :: Ds, rfl, List.nodup_cons.2 ⟨fun hm => hn (List.mem_map.2 ⟨D, hm, rfl⟩), hnd⟩, fun D' hD' => ?_⟩
  rcases List.mem_cons.1 hD' with rfl | hD'
  · exact (hw D' ho hlt).trans hD
  · exact hall D' hD'
theorem mk_new {w : World} (h : MK ds w) : markD w.heap.size ∉ ds := fun hm => by
  obtain ⟨Ds, rfl, _, hall⟩ := h
  obtain ⟨D, hD, he⟩ := List.mem_map.1 hm
  have := hall D hD
  rw [markD_inj he] at this
  have := (Array.getElem?_eq_some_iff.1 this).1
  omega
theorem mk_lab {L : Nat} {Ds : List Nat} (h : Ft (MK (Ds.map markD)) w o L) {D : Nat} (hD : D ∈ Ds) : o D = L := by
  by_cases ho : o D = L
  · exact ho
  · obtain ⟨Ds', he, _, hall⟩ := h.now
    have he := map_inj he
    subst he
    have h1 := hall D hD
    have hlt : D < w.heap.size := (Array.getElem?_eq_some_iff.1 h1).1
    obtain ⟨Ds'', he, _, hall2⟩ := h { w with heap := w.heap.set D (.map #[] 0) hlt } (fun c hc hcl => by
      have : c ≠ D := fun e => ho (e ▸ hc)
      simp [Array.getElem?_set, Ne.symm this])
    have he := map_inj he
    subst he
    have h2 := hall2 D hD
    unfold DM at h2
    simp at h2
/-- What a body that has ranges over functions must end in. -/
def bodyQ (P : Program) (fn : Func) (Φ : Value → World → Prop) : Exit → Act → World → Prop
  | .normal, a, w | .ret, a, w => LeavesInM (WF none) 0 P fn a.tmps (Ret Φ) a.defers .returning w
  | _, _, _ => False
theorem np_bodyQ {fn : Func} {Φ : Value → World → Prop} : NP (bodyQ P fn Φ) := fun _ _ _ h => h
theorem x_marks {fn : Func} {Φ : Value → World → Prop} {L : Nat} (hk : KnD n ds a e) (hM : Ft (MK ds) w o L) (h : ∀ a' w', KnD n [] a' e → St [L] w o w' o → bodyPost P fn (Ret Φ) .ret a' w') : LeavesInM (WF none) 0 P fn a.tmps (Ret Φ) a.defers .returning w := by
  obtain ⟨Ds, hds, hnd, hall⟩ := hM.now
  subst hds
  have hlab := fun D hD => mk_lab hM (D := D) hD
  rw [hk.defers]
  have key : ∀ (Es : List Nat) (W : World), Es.Nodup → (∀ D ∈ Es, DM D W) → (∀ D ∈ Es, o D = L) → St [L] w o W o → LeavesInM (WF none) 0 P fn a.tmps (Ret Φ) (Es.map markD) .returning W := by
    intro Es
    induction Es with
    | nil =>
      intro W _ _ _ hs
      obtain ⟨_, v, hr, hv⟩ := h { a with defers := [] } W ⟨hk.size, rfl, hk.at_⟩ hs
      exact ⟨v, hr, hv⟩
    | cons D Es ih =>
      intro W hn hd hl hs
      refine ⟨by simp, .inl ⟨D, _, rfl, run_takeDeferred (hd D (by simp)), ih _ (List.nodup_cons.1 hn).2 (fun D' hD' => ?_) (fun D' hD' => hl D' (by simp [hD'])) (hs.trans (putObj_st _ (hl D (by simp))))⟩⟩
      have hne : D' ≠ D := fun e => (List.nodup_cons.1 hn).1 (e ▸ hD')
      exact (World.putObj_heap_other hne).trans (hd D' (by simp [hD']))
  exact key Ds w hnd hall hlab (St.refl _ _ _)
theorem x_retQ {fn : Func} {Φ : Value → World → Prop} {L : Nat} (hk : KnD n ds a e) (hM : Ft (MK ds) w o L) (h : ∀ w' a', St [L] w o w' o → KnD n [] a' e → bodyPost P fn (Ret Φ) .ret a' w') : bodyQ P fn Φ .ret a w :=
  x_marks hk hM fun a' w' hk' hs => h w' a' hs hk'
theorem x_endQ {fn : Func} {Φ : Value → World → Prop} {L : Nat} (hk : KnD n ds a e) (hM : Ft (MK ds) w o L) (h : ∀ w' a', St [L] w o w' o → KnD n [] a' e → bodyPost P fn (Ret Φ) .ret a' w') : bodyQ P fn Φ .normal a w :=
  x_marks hk hM fun a' w' hk' hs => h w' a' hs hk'
theorem x_enterQ {f : FuncId} {fn : Func} {c : Code} {vs : List Value} {Φ : Value → World → Prop} (hf : P.funcs[f]? = some fn) (hb : fn.body = some c) (hn : fn.ntmps = n) (hl : Nat.ble vs.length n = true)
    (h : ∀ a, KnD n [] a (entryE 0 vs) → c.wpIn (WF none) 0 P (bodyQ P fn Φ) a w) : Calls P f vs.toArray w (Ret Φ) := by
  subst hn
  have hl' : vs.length ≤ fn.ntmps := by simpa using hl
  refine callsIn_wide.1 (callsIn_of_wp_marks (F := WF none) (n := 0) hf hb trivial (wpIn_mono (h _ ⟨by simp; omega, rfl, fun t v hv => ?_⟩) (fun ex a w hq => ?_)) rfl)
  · obtain ⟨j, rfl, hj⟩ := look_entry vs 0 t v hv
    have hjl : j < vs.length := (List.getElem?_eq_some_iff.1 hj).1
    simp only [Nat.zero_add]
    rw [Array.getElem?_append_left (by simpa using hjl)]
    simpa using hj
  · cases ex <;> first | exact hq | exact hq.elim

/-! ### The consumer -/
/-- How a round may be left. -/
def RQ (I : List α → World → (Nat → Nat) → Prop) (X : Code → World → (Nat → Nat) → Prop) (R1 : World → Prop) (M : List Nat) (rest : List α) (W : World) (oW : Nat → Nat) : Exit → Act → World → Prop
  | .normal, _, W' => ∃ oW', St M W oW W' oW' ∧ Ft R1 W' oW' (M.headD 0) ∧ I rest W' oW'
  | .ret, _, W' => ∃ oW', St M W oW W' oW' ∧ Ft R1 W' oW' (M.headD 0) ∧ X .ret W' oW'
  | .exit id, _, W' => ∃ oW', St M W oW W' oW' ∧ Ft R1 W' oW' (M.headD 0) ∧ X (.exit id) W' oW'
  | _, _, _ => False
theorem np_RQ {I : List α → World → (Nat → Nat) → Prop} {X : Code → World → (Nat → Nat) → Prop} {R1 : World → Prop} {M : List Nat} {rest : List α} {W : World} {oW : Nat → Nat} : NP (RQ I X R1 M rest W oW) := fun _ _ _ h => h
theorem heap_lab {k L : Nat} {lp : Loop} {W : World} {oW : Nat → Nat} (h : Ft (fun V => V.heap[k]? = some (.loop lp)) W oW L) : oW k = L := by
  by_cases ho : oW k = L
  · exact ho
  · have hlt := (Array.getElem?_eq_some_iff.1 h.now).1
    have h2 := h { W with heap := W.heap.set k (.map #[] 0) hlt } (fun c hc hcl => by
      have : c ≠ k := fun e => ho (e ▸ hc)
      simp [Array.getElem?_set, Ne.symm this])
    simp at h2
theorem np_no : NP (fun (_ : Exit) (_ : Act) (_ : World) => False) := fun _ _ _ h => h
def zipE : List Tmp → List Value → Env → Env
  | p :: ps, v :: vs, e => zipE ps vs ((p, v) :: e)
  | _, _, e => e
theorem kn_zip : ∀ (ps : List Tmp) (vs : List Value) (tmps : Array Value) (e : Env), (∀ p ∈ ps, p < n) → KnD n [] { tmps := tmps, defers := [] } e →
    KnD n [] { tmps := (ps.zip vs).foldl (fun t (p, v) => t.setIfInBounds p v) tmps, defers := [] } (zipE ps vs e)
  | [], _, tmps, e, _, h => by simpa [zipE] using h
  | p :: ps, [], tmps, e, _, h => by simpa [zipE] using h
  | p :: ps, v :: vs, tmps, e, hp, h => by
    simp only [List.zip_cons_cons, List.foldl_cons, zipE]
    refine kn_zip ps vs _ _ (fun q hq => hp q (by simp [hq])) ?_
    exact h.put p v (by simpa using hp p (by simp))
/-- The labels of a range over a function keep apart. -/
def disB (Ld Lb Li : Nat) (My Lm Lr : List Nat) : Bool := (Lb :: My).all (fun L => !(Li :: (Lm ++ Lr)).contains L) && !(Lb :: Li :: Lm ++ My).contains Ld && !My.contains Lb
theorem x_range {f : FuncId} {fi ca : List Value} {Ev : α → List Value → World → Prop} {Le : Option Nat} {ys : List α} {Lm Lr : List Nat} {t : Nat} {ps : Array Tmp} {assign body : Code} (Ld Lb Li : Nat) (My : List Nat)
    (hk : KnD n ds a e) (hf : look e t = some (.func (.func f) fi.toArray ca.toArray)) (he : EntersF P f) (It : IterC P f fi ca Ev Le ys w o Lm Lr) (hM : Ft (MK ds) w o Ld)
    (hps : ∀ x vs w, Ev x vs w → vs.length = ps.size) (hpn : ps.toList.all (fun p => Nat.blt p n) = true) (hdis : disB Ld Lb Li My Lm Lr = true)
    (I : List α → World → (Nat → Nat) → Prop) (X : Code → World → (Nat → Nat) → Prop)
    (hI : ∀ rest W oW W' oW', I rest W oW → St (Lb :: Li :: Lm) W oW W' oW' → I rest W' oW') (hX : ∀ c W oW W' oW', X c W oW → St (Lb :: Li :: Lm) W oW W' oW' → X c W' oW')
    (h0 : I ys w o)
    (hround : ∀ (R0 R1 : World → Prop) (l : Nat) (x : α) (vs : List Value) (rest : List α) (W : World) (oW : Nat → Nat), I (x :: rest) W oW → EvC Ev Le x vs W oW → Ft R0 W oW Lb → ∀ a1, KnD n [] a1 (zipE ps.toList vs e) →
      assign.wpIn (WF (some l)) 0 P (Exit.then (fun a2 W2 => ∃ o2, Ft R0 W2 o2 Lb ∧ ∀ W3, St [Lb] W2 o2 W3 o2 → Ft R1 W3 o2 Lb → body.wpIn (WF (some l)) 0 P (RQ I X R1 (Lb :: My) rest W oW) a2 W3) (fun _ _ _ => False)) a1 W)
    (hdone : ∀ ds' W oW a', KnD n ds' a' e → Ft (MK ds') W oW Ld → I [] W oW → Q .normal a' W)
    (hstop : ∀ c ds' W oW a', KnD n ds' a' e → Ft (MK ds') W oW Ld → X c W oW → c.wpIn (WF none) 0 P Q a' W) :
    (Code.rangeFunc (.tmp t) ps assign body).wpIn (WF none) 0 P Q a w := by
  simp only [disB, Bool.and_eq_true, List.all_eq_true, Bool.not_eq_true', List.contains_eq_mem, decide_eq_false_iff_not] at hdis
  obtain ⟨⟨hdis, hLd⟩, hLb⟩ := hdis
  refine wpIn_rangeFunc ?_
  intro fn hfn
  obtain ⟨rec, hrec⟩ : ∃ rec : LoopState → Option Code → Loop, rec = fun st pe => { state := st, pending := pe, fn, tmps := a.tmps, params := ps, assign, body, defers := w.heap.size } := ⟨_, rfl⟩
  obtain ⟨W1, hW1⟩ : ∃ W1, (w.alloc (.deferred (some []))).alloc (.loop (rec .ready none)) = W1 := ⟨_, rfl⟩
  obtain ⟨o1, ho1⟩ : ∃ o1, newLab (newLab o w.heap.size Ld) (w.heap.size + 1) Lb = o1 := ⟨_, rfl⟩
  have hsz : (w.alloc (.deferred (some []))).heap.size = w.heap.size + 1 := by simp
  have hL1 : W1.heap[w.heap.size + 1]? = some (.loop (rec .ready none)) := by
    rw [← hW1, ← hsz]; exact World.alloc_heap_new _ _
  have hK1 : DM w.heap.size W1 := by
    show W1.heap[w.heap.size]? = _
    rw [← hW1, heap_alloc_old _ _ (by rw [hsz]; omega)]; exact World.alloc_heap_new w _
  have hs1 : St [] w o W1 o1 := by
    have h2 := St.alloc [] (w.alloc (.deferred (some []))) (newLab o w.heap.size Ld) (.loop (rec .ready none)) Lb
    rw [hsz, ho1, hW1] at h2
    exact (St.alloc [] w o (.deferred (some [])) Ld).trans h2
  have hoD : o1 w.heap.size = Ld := by rw [← ho1]; simp [newLab]
  have hol : o1 (w.heap.size + 1) = Lb := by rw [← ho1]; simp [newLab]
  have hnew := mk_new hM.now
  have hLbm : Lb ∉ Li :: Lm := fun h => hdis Lb (by simp) (by
    rcases List.mem_cons.1 h with h | h
    · simp [h]
    · simp [h])
  have hLdm : Ld ∉ Li :: Lm := fun h => hLd (by
    rcases List.mem_cons.1 h with h | h
    · simp [h]
    · simp [h])
  have hLdy : Ld ∉ Lb :: My := fun h => hLd (by
    rcases List.mem_cons.1 h with h | h
    · simp [h]
    · simp [h])
  have hLdb : Ld ∉ [Lb] := fun h => hLd (by simp at h; simp [h])
  -- what holds between two rounds
  obtain ⟨J, hJ⟩ : ∃ J : List α → World → (Nat → Nat) → Prop, J = fun rest W oW => I rest W oW ∧ W.heap[w.heap.size + 1]? = some (.loop (rec .ready none)) ∧ DM w.heap.size W ∧ oW w.heap.size = Ld ∧ oW (w.heap.size + 1) = Lb ∧ Ft (MK ds) W oW Ld := ⟨_, rfl⟩
  obtain ⟨XJ, hXJ⟩ : ∃ XJ : World → (Nat → Nat) → Prop, XJ = fun W oW => ∃ c, X c W oW ∧ W.heap[w.heap.size + 1]? = some (.loop (rec .done (some c))) ∧ DM w.heap.size W ∧ oW w.heap.size = Ld ∧ oW (w.heap.size + 1) = Lb ∧ Ft (MK ds) W oW Ld := ⟨_, rfl⟩
  have keep : ∀ {M : List Nat} {W W' : World} {oW oW' : Nat → Nat} {k L : Nat} {ob : Obj}, St M W oW W' oW' → L ∉ M → oW k = L → W.heap[k]? = some ob → W'.heap[k]? = some ob ∧ oW' k = L := fun hs hM hk hob => by
    have hlt := (Array.getElem?_eq_some_iff.1 hob).1
    exact ⟨(hs.kept _ hlt (by rw [hk]; exact hM)).trans hob, (hs.lab _ hlt (by rw [hk]; exact hM)).trans hk⟩
  refine ⟨w.heap.size + 1, [markD w.heap.size], W1, { target := .fn (.func f) ca.toArray, args := (fi ++ [Value.func (.yield (w.heap.size + 1)) #[] #[]]).toArray }, W1, f, (fi ++ Value.func (.yield (w.heap.size + 1)) #[] #[] :: ca).toArray, W1, ?_, ?_, fun _ _ => trivial, ?_, fun hd => (by cases hd), ?_⟩
  · rw [← hW1, hrec]; exact run_enterLoop_outer _ _ _ _ _
  · have hev : a.eval (.tmp t) = .func (.func f) fi.toArray ca.toArray := hk.ev (x := .tmp t) hf
    have hec : a.eval (.const (.func (.yield (w.heap.size + 1)) #[] #[])) = .func (.yield (w.heap.size + 1)) #[] #[] := rfl
    simp [rangeCall, resolve, hev, hec, Deferred.ofValue]
  · have := he ((fi ++ [Value.func (.yield (w.heap.size + 1)) #[] #[]]).toArray ++ ca.toArray) W1
    simpa [invoke] using this
  · refine CallsIn.mono (wf_calls (It (w.heap.size + 1) J XJ W1 o1 (Lb :: My) Li hs1 hdis ?_ ?_ ?_ ?_)) ?_
    · intro rest W oW W' oW' hj hs
      subst hJ
      obtain ⟨hi, hl, hd, h1, h2, h3⟩ := hj
      exact ⟨hI _ _ _ _ _ hi (hs.mono fun l hl => List.mem_cons_of_mem _ hl), (keep hs hLbm h2 hl).1, (keep hs hLdm h1 hd).1, (keep hs hLdm h1 hd).2, (keep hs hLbm h2 hl).2, h3.st hs hLdm⟩
    · intro W oW W' oW' hj hs
      subst hXJ
      obtain ⟨c, hi, hl, hd, h1, h2, h3⟩ := hj
      exact ⟨c, hX _ _ _ _ _ hi (hs.mono fun l hl => List.mem_cons_of_mem _ hl), (keep hs hLbm h2 hl).1, (keep hs hLdm h1 hd).1, (keep hs hLdm h1 hd).2, (keep hs hLbm h2 hl).2, h3.st hs hLdm⟩
    · -- a round
      intro x rest W oW vs hj hE
      rw [hJ] at hj
      obtain ⟨hi, hl, hd, h1, h2, h3⟩ := hj
      have hy := run_yield (P := P) (args := vs.toArray) hl (by rw [hrec]; simpa using hps x vs W hE.now)
      rw [hrec] at hy
      refine ⟨fn, _, assign, body, hy, roundIn_of_wpIn hfn ?_⟩
      have hkz : KnD n [] { tmps := (ps.zip vs.toArray).foldl (fun t (p, v) => t.setIfInBounds p v) a.tmps, defers := [] } (zipE ps.toList vs e) := by
        have := kn_zip (n := n) ps.toList vs a.tmps e (fun p hp => by simpa using List.all_eq_true.1 hpn p hp) ⟨hk.size, rfl, hk.at_⟩
        rw [← Array.foldl_toList, Array.toList_zip]
        simpa using this
      have rft : ∀ {W : World} {oW : Nat → Nat} {ob : Obj}, W.heap[w.heap.size + 1]? = some ob → oW (w.heap.size + 1) = Lb → Ft (fun V => V.heap[w.heap.size + 1]? = some ob) W oW Lb := fun {W oW ob} hob ho w' hw =>
        (hw _ ho (Array.getElem?_eq_some_iff.1 hob).1).trans hob
      refine wpIn_mono (hround (fun V => V.heap[w.heap.size + 1]? = some (.loop (rec .ready none))) (fun V => V.heap[w.heap.size + 1]? = some (.loop { rec .ready none with state := .busy })) (w.heap.size + 1) x vs rest W oW hi hE (rft hl h2) _ hkz) fun ex a2 W2 hq => ?_
      cases ex <;> first | exact hq.elim | skip
      obtain ⟨o2, hr0, hbody⟩ := hq
      have hl2 := hr0.now
      have ho2 : o2 (w.heap.size + 1) = Lb := heap_lab hr0
      have hlt2 := (Array.getElem?_eq_some_iff.1 hl2).1
      refine ⟨_, run_beginRound hl2 (by rw [hrec]), ?_⟩
      have hsb := putObj_st (w := W2) (o := o2) (.loop { rec .ready none with state := .busy }) ho2
      have hlb : (W2.putObj (w.heap.size + 1) (.loop { rec .ready none with state := .busy })).heap[w.heap.size + 1]? = some (.loop { rec .ready none with state := .busy }) := World.putObj_heap_same hlt2
      -- the round's end
      have fin : ∀ (jump : Option Code) (W3 : World) (o3 : Nat → Nat), St (Lb :: My) W oW W3 o3 → Ft (fun V => V.heap[w.heap.size + 1]? = some (.loop { rec .ready none with state := .busy })) W3 o3 Lb →
          ∃ W4, (Instr.endRound (w.heap.size + 1) jump).run P W3 = .ok (.bool jump.isNone) W4 ∧ St (Lb :: My) W oW W4 o3 ∧ St [Lb] W3 o3 W4 o3 ∧
            W4.heap[w.heap.size + 1]? = some (.loop (rec (if jump.isNone then .ready else .done) jump)) ∧ DM w.heap.size W4 ∧ o3 w.heap.size = Ld ∧ o3 (w.heap.size + 1) = Lb ∧ Ft (MK ds) W4 o3 Ld := fun jump W3 o3 hs3 hb3' => by
        have hb3 := hb3'.now
        have k2 := keep hs3 hLdy h1 hd
        have k1 : o3 (w.heap.size + 1) = Lb := heap_lab hb3'
        have hlt3 := (Array.getElem?_eq_some_iff.1 hb3).1
        have hse := putObj_st (w := W3) (o := o3) (.loop (rec (if jump.isNone then .ready else .done) jump)) k1
        have hr := run_endRound (P := P) jump hb3
        rw [hrec] at hr hse ⊢
        refine ⟨_, hr, hs3.trans (hse.mono fun l hl => ?_), hse, World.putObj_heap_same hlt3, (World.putObj_heap_other (by omega)).trans k2.1, k2.2, k1, (h3.st hs3 hLdy).st hse hLdb⟩
        simp at hl; simp [hl]
      refine wpIn_mono (hbody _ hsb (rft hlb ho2)) fun ex a3 W3 hq => ?_
      cases ex with
      | normal =>
        obtain ⟨o3, hs3, hb3, hi3⟩ := hq
        obtain ⟨W4, hr, hs4, hse, hl4, hd4, e1', e2', e3'⟩ := fin none W3 o3 hs3 hb3
        refine ⟨_, W4, hr, true, rfl, o3, hs4, fun _ => ?_, fun hb => by cases hb⟩
        rw [hJ]
        exact ⟨hI _ _ _ _ _ hi3 (hse.mono fun l hl => by simp at hl ⊢; simp [hl]), hl4, hd4, e1', e2', e3'⟩
      | ret =>
        obtain ⟨o3, hs3, hb3, hi3⟩ := hq
        obtain ⟨W4, hr, hs4, hse, hl4, hd4, e1', e2', e3'⟩ := fin (some .ret) W3 o3 hs3 hb3
        refine ⟨_, W4, hr, false, rfl, o3, hs4, fun hb => (by cases hb), fun _ => ?_⟩
        rw [hXJ]
        exact ⟨.ret, hX _ _ _ _ _ hi3 (hse.mono fun l hl => by simp at hl ⊢; simp [hl]), hl4, hd4, e1', e2', e3'⟩
      | exit id =>
        obtain ⟨o3, hs3, hb3, hi3⟩ := hq
        obtain ⟨W4, hr, hs4, hse, hl4, hd4, e1', e2', e3'⟩ := fin (some (.exit id)) W3 o3 hs3 hb3
        refine ⟨_, W4, hr, false, rfl, o3, hs4, fun hb => (by cases hb), fun _ => ?_⟩
        rw [hXJ]
        exact ⟨.exit id, hX _ _ _ _ _ hi3 (hse.mono fun l hl => by simp at hl ⊢; simp [hl]), hl4, hd4, e1', e2', e3'⟩
      | goto t => exact hq.elim
      | panic ch => exact hq.elim
      | outgrown => exact hq.elim
    · rw [hJ]; exact ⟨hI _ _ _ _ _ h0 (hs1.mono fun l hl => by simp at hl), hL1, hK1, hoD, hol, hM.st hs1 (by simp)⟩
    · -- behind the iterator
      rintro en W2 ⟨v, rfl, oW, hj⟩
      have hka : KnD n (markD w.heap.size :: ds) { a with defers := [markD w.heap.size] ++ a.defers } e := ⟨hk.size, by simp [hk.defers], hk.at_⟩
      rcases hj with hj | hj
      · rw [hJ] at hj
        obtain ⟨hi, hl, hd, h1, h2, h3⟩ := hj
        have hse := putObj_st (w := W2) (o := oW) (.loop { rec .ready none with state := .exhausted }) h2
        have hr : (Instr.endLoop (w.heap.size + 1)).run P W2 = .ok none (W2.putObj (w.heap.size + 1) (.loop { rec .ready none with state := .exhausted })) := by
          have := run_endLoop (P := P) hl (by rw [hrec]; simp); rw [hrec] at this ⊢; exact this
        exact ⟨none, _, hr, hdone _ _ oW _ hka (mk_cons (h3.st hse hLdb) ((World.putObj_heap_other (by omega)).trans hd) h1 hnew) (hI _ _ _ _ _ hi (hse.mono fun l hl => by simp at hl ⊢; simp [hl]))⟩
      · rw [hXJ] at hj
        obtain ⟨c, hi, hl, hd, h1, h2, h3⟩ := hj
        have hse := putObj_st (w := W2) (o := oW) (.loop { rec .done (some c) with state := .exhausted }) h2
        have hr : (Instr.endLoop (w.heap.size + 1)).run P W2 = .ok (some c) (W2.putObj (w.heap.size + 1) (.loop { rec .done (some c) with state := .exhausted })) := by
          have := run_endLoop (P := P) hl (by rw [hrec]; simp); rw [hrec] at this ⊢; exact this
        exact ⟨some c, _, hr, hstop c _ _ oW _ hka (mk_cons (h3.st hse hLdb) ((World.putObj_heap_other (by omega)).trans hd) h1 hnew) (hX _ _ _ _ _ hi (hse.mono fun l hl => by simp at hl ⊢; simp [hl]))⟩

/-! ### Labels in a round -/
theorem St.startB (W : World) (oW : Nat → Nat) (B : Nat) : ∃ oi : Nat → Nat, (∀ M, St M W oi W oi) ∧ (∀ {P : World → Prop} {l : Nat}, Ft P W oW l → Nat.ble l B = true → Ft P W oi l) ∧ (∀ b, oi b ≤ B + 1) ∧ (∀ b, oi b ≤ B → oW b = oi b) := by
  refine ⟨fun b => if oW b ≤ B then oW b else B + 1, fun M => St.refl _ _ _, fun {P l} h hl => h.mono fun b hb _ => ?_, fun b => ?_, fun b => ?_⟩
  · have : l ≤ B := by simpa using hl
    simp [hb, this]
  · simp only; split <;> omega
  · simp only; split
    · intro _; rfl
    · omega
theorem St.locB {MM N : List Nat} {m : Nat} {oi o2 : Nat → Nat} {W W2 : World} (h : St MM w oi W o) (k : St N W o W2 o2) (hn : (N.all fun l => MM.contains l || Nat.blt m l) = true) (hb : ∀ b, oi b ≤ m) : St MM w oi W2 o2 :=
  h.then k fun b _ hbn => by
    have := List.all_eq_true.1 hn _ hbn
    simp only [Bool.or_eq_true] at this
    rcases this with h1 | h1
    · simpa using h1
    · have h2 := hb b
      have h3 : m < oi b := by simpa using h1
      omega
theorem St.closeB {MM : List Nat} {B : Nat} {oi of oW : Nat → Nat} {W W' : World} (h : St MM W oi W' of) (hoi : ∀ b, oi b ≤ B → oW b = oi b) (hb : ∀ b, oi b ≤ B + 1) (hM : MM.all (fun l => Nat.ble l B) = true) (ρ : Nat → Nat) : St MM W oW W' (cl W oi oW MM ρ of) :=
  ⟨h.os, h.tape, h.output, h.size, fun b hb hn => cl_old hb (fun hm => hn (by
    have := List.all_eq_true.1 hM _ hm
    rw [hoi b (by simpa using this)]; exact hm)), fun b hlt hn => h.kept b hlt fun hm => hn (by
    have := List.all_eq_true.1 hM _ hm
    rw [hoi b (by simpa using this)]; exact hm)⟩
theorem lab_atB {oi oW : Nat → Nat} {B l : Nat} (hoi : ∀ b, oi b ≤ B → oW b = oi b) (hl : Nat.ble l B = true) (b : Nat) (e : oi b = l) : oW b = l :=
  (hoi b (by rw [e]; simpa using hl)).trans e

/-! ### The iterator -/
/-- Its labels within, and those without. -/
def Lk (Lm Lr : List Nat) (Le : Option Nat) (Li : Nat) (W : World) (oi oe : Nat → Nat) : Prop := ∀ b, b < W.heap.size →
  oi b = 0 ∨ (∃ i, oi b = i + 1 ∧ Lm[i]? = some (oe b)) ∨ (oi b = Lm.length + 1 ∧ (Le = some (oe b) ∨ (Le = none ∧ oe b = Li))) ∨ (oi b = Lm.length + 2 ∧ (oe b ∈ Lr ∨ oe b = Li)) ∨ (Lm.length + 2 < oi b ∧ oe b = Li)
def okN (m : Nat) (N : List Nat) : Bool := N.all fun l => (Nat.blt 0 l && Nat.ble l m) || Nat.blt (m + 2) l
theorem Lk.step {Lm Lr N : List Nat} {Le : Option Nat} {Li : Nat} {W W' : World} {oi oi' oe : Nat → Nat} (h : Lk Lm Lr Le Li W oi oe) (hs : St N W oi W' oi') (hN : okN Lm.length N = true) :
    ∃ oe', St (Li :: Lm) W oe W' oe' ∧ Lk Lm Lr Le Li W' oi' oe' := by
  have key : ∀ b, b < W.heap.size → oe b ∉ Li :: Lm → oi b ∉ N := fun b hb hn hm => by
    have h1 := List.all_eq_true.1 hN _ hm
    simp only [Bool.or_eq_true, Bool.and_eq_true] at h1
    rcases h b hb with h2 | ⟨i, h2, h3⟩ | ⟨h2, h3⟩ | ⟨h2, h3⟩ | ⟨h2, h3⟩
    · rw [h2] at h1; simp at h1
    · exact hn (List.mem_cons_of_mem _ (List.mem_of_getElem? h3))
    · rw [h2] at h1; simp at h1; omega
    · rw [h2] at h1; simp at h1; omega
    · exact hn (by simp [h3])
  refine ⟨fun b => if b < W.heap.size ∧ oi b ∉ N then oe b else if oi' b = 0 then Li else if oi' b = Lm.length + 1 then Le.getD Li else (Lm[oi' b - 1]?).getD Li, ⟨hs.os, hs.tape, hs.output, hs.size, fun b hb hn => if_pos ⟨hb, key b hb hn⟩, fun b hb hn => hs.kept b hb (key b hb hn)⟩, fun b hb => ?_⟩
  · by_cases hlt : b < W.heap.size ∧ oi b ∉ N
    · simp only [hlt, if_true, not_false_eq_true, and_self]
      rw [hs.lab b hlt.1 hlt.2]
      exact h b hlt.1
    · simp only [hlt, if_false]
      rcases Nat.eq_zero_or_pos (oi' b) with h0 | h0
      · exact .inl h0
      · have hne : oi' b ≠ 0 := by omega
        simp only [hne, if_false]
        by_cases h1 : oi' b = Lm.length + 1
        · refine .inr (.inr (.inl ⟨h1, ?_⟩))
          simp only [h1, if_true]
          cases Le with
          | none => exact .inr ⟨rfl, rfl⟩
          | some L => exact .inl rfl
        · simp only [h1, if_false]
          by_cases hi : oi' b - 1 < Lm.length
          · exact .inr (.inl ⟨oi' b - 1, by omega, by rw [List.getElem?_eq_getElem hi]; rfl⟩)
          · have hg : (Lm[oi' b - 1]?).getD Li = Li := by rw [List.getElem?_eq_none (by omega)]; rfl
            rw [hg]
            by_cases h2 : oi' b = Lm.length + 2
            · exact .inr (.inr (.inr (.inl ⟨h2, .inr rfl⟩)))
            · exact .inr (.inr (.inr (.inr ⟨by omega, rfl⟩)))
theorem Lk.relab {Lm Lr : List Nat} {Le : Option Nat} {Li : Nat} {W : World} {oi oe : Nat → Nat} (h : Lk Lm Lr Le Li W oi oe) {ρ : Nat → Nat} {p : Nat} (hp : Lm.length + 2 = p) (h1 : ∀ l, l ≤ p → ρ l = l) (h2 : ∀ l, p < l → p < ρ l) : Lk Lm Lr Le Li W (fun b => ρ (oi b)) oe := fun b hb => by
  subst hp
  rcases h b hb with h3 | ⟨i, h3, h4⟩ | ⟨h3, h4⟩ | ⟨h3, h4⟩ | ⟨h3, h4⟩
  · exact .inl (by simp only [h3]; exact h1 0 (by omega))
  · have hi : i < Lm.length := (List.getElem?_eq_some_iff.1 h4).1
    exact .inr (.inl ⟨i, by simp only [h3]; exact h1 _ (by omega), h4⟩)
  · exact .inr (.inr (.inl ⟨by simp only [h3]; exact h1 _ (by omega), h4⟩))
  · exact .inr (.inr (.inr (.inl ⟨by simp only [h3]; exact h1 _ (by omega), h4⟩)))
  · exact .inr (.inr (.inr (.inr ⟨h2 _ h3, h4⟩)))
theorem iter_start {f : FuncId} {fi ca : List Value} {Ev : α → List Value → World → Prop} {Le : Option Nat} {ys : List α} {Lm Lr : List Nat} (hd : Lm.Nodup) (hLe : ∀ L, Le = some L → L ∈ Lr)
    (h : ∀ (l : Nat) (JJ : List α → World → (Nat → Nat) → Prop) (XX : World → (Nat → Nat) → Prop) (Res : World → Prop) (w1 : World) (oi : Nat → Nat),
      (∀ {Pd : World → Prop} {L : Nat} (i j : Nat), Ft Pd w o L → Lm[i]? = some L → i + 1 = j → Ft Pd w1 oi j) → (∀ {Pd : World → Prop} {L : Nat} (i : Nat), Ft Pd w o L → Le = some L → L ∉ Lm → Lm.length + 1 = i → Ft Pd w1 oi i) →
      (∀ {Pd : World → Prop} {L : Nat} (i : Nat), Ft Pd w o L → L ∈ Lr → L ∉ Lm → Le ≠ some L → Lm.length + 2 = i → Ft Pd w1 oi i) →
      (∀ {r W oW N W' oW'}, JJ r W oW → St N W oW W' oW' → okN Lm.length N = true → JJ r W' oW') → (∀ {W oW N W' oW'}, XX W oW → St N W oW W' oW' → okN Lm.length N = true → XX W' oW') →
      (∀ {r W oW} (ρ : Nat → Nat) {p : Nat}, JJ r W oW → Lm.length + 2 = p → (∀ l, l ≤ p → ρ l = l) → (∀ l, p < l → p < ρ l) → JJ r W (fun b => ρ (oW b))) →
      (∀ {x rest W oW vs}, JJ (x :: rest) W oW → EvC Ev (Le.map fun _ => Lm.length + 1) x vs W oW → YA P l vs W (fun b W' => ∃ oW', St [0] W oW W' oW' ∧ (b = true → JJ rest W' oW') ∧ (b = false → XX W' oW'))) →
      (∀ {W oW}, JJ [] W oW → Res W) → (∀ {W oW}, XX W oW → Res W) → JJ ys w1 oi → Calls P f (fi ++ Value.func (.yield l) #[] #[] :: ca).toArray w1 (Ret fun _ W' => Res W')) : IterC P f fi ca Ev Le ys w o Lm Lr := by
  intro l J X w1 o1 My Li hs1 hMy hJ hX hY h0
  refine h l (fun r W oi => ∃ oe, J r W oe ∧ Lk Lm Lr Le Li W oi oe) (fun W oi => ∃ oe, X W oe ∧ Lk Lm Lr Le Li W oi oe) (fun W' => ∃ oW', J [] W' oW' ∨ X W' oW') w1 (fun b => if o1 b ∈ Lm then Lm.idxOf (o1 b) + 1 else if Le = some (o1 b) then Lm.length + 1 else if o1 b ∈ Lr then Lm.length + 2 else 0) ?_ ?_ ?_ ?_ ?_ ?_ ?_ ?_ ?_ ⟨o1, h0, fun b _ => ?_⟩
  · intro Pd L i j hf hi hj
    subst hj
    refine (hf.st hs1 (by simp)).mono fun b hb _ => ?_
    have hm := List.mem_of_getElem? hi
    have hlt : i < Lm.length := (List.getElem?_eq_some_iff.1 hi).1
    have : Lm.idxOf L = i := by
      have he : Lm[i] = L := (List.getElem?_eq_some_iff.1 hi).2
      rw [← he]; exact hd.idxOf_getElem i hlt
    simp only [hb, hm, if_true, this]
  · intro Pd L i hf hL hn hi
    subst hi
    refine (hf.st hs1 (by simp)).mono fun b hb _ => ?_
    simp only [hb, hn, hL, if_true, if_false]
  · intro Pd L i hf hL hn hne hi
    subst hi
    refine (hf.st hs1 (by simp)).mono fun b hb _ => ?_
    simp only [hb, hn, hne, hL, if_true, if_false]
  · rintro r W oW N W' oW' ⟨oe, hj, hl⟩ hs hN
    obtain ⟨oe', h1, h2⟩ := hl.step hs hN
    exact ⟨oe', hJ _ _ _ _ _ hj h1, h2⟩
  · rintro W oW N W' oW' ⟨oe, hj, hl⟩ hs hN
    obtain ⟨oe', h1, h2⟩ := hl.step hs hN
    exact ⟨oe', hX _ _ _ _ hj h1, h2⟩
  · rintro r W oW ρ p ⟨oe, hj, hl⟩ hp h1 h2
    exact ⟨oe, hj, hl.relab hp h1 h2⟩
  · rintro x rest W oW vs ⟨oe, hj, hl⟩ hE
    have hE' : EvC Ev Le x vs W oe := by
      cases Le with
      | none => exact hE
      | some L =>
        refine Ft.mono (L := Lm.length + 1) hE fun b hb hlt => ?_
        rcases hl b hlt with h3 | ⟨i', h3, h4⟩ | ⟨h3, h4⟩ | ⟨h3, h4⟩ | ⟨h3, h4⟩
        · omega
        · have := (List.getElem?_eq_some_iff.1 h4).1
          omega
        · rcases h4 with h4 | ⟨h4, _⟩
          · exact (Option.some.inj h4).symm
          · cases h4
        · omega
        · omega
    obtain ⟨fn, tmps, assign, body, hrun, hr⟩ := hY x rest W oe vs hj hE'
    refine ⟨fn, tmps, assign, body, hrun, RoundIn.mono hr ?_⟩
    rintro en W' ⟨b, rfl, oe', hs, ht, hf⟩
    have nk : ∀ b, b < W.heap.size → oW b ∉ ([0] : List Nat) → oe b ∉ My := fun b hb hn hm => by
      rcases hl b hb with h3 | ⟨i', h3, h4⟩ | ⟨h3, h4⟩ | ⟨h3, h4⟩ | ⟨h3, h4⟩
      · exact hn (by simp [h3])
      · exact hMy _ hm (List.mem_cons_of_mem _ (List.mem_append_left _ (List.mem_of_getElem? h4)))
      · rcases h4 with h4 | ⟨_, h4⟩
        · exact hMy _ hm (List.mem_cons_of_mem _ (List.mem_append_right _ (hLe _ h4)))
        · exact hMy _ hm (by simp [h4])
      · rcases h4 with h4 | h4
        · exact hMy _ hm (List.mem_cons_of_mem _ (List.mem_append_right _ h4))
        · exact hMy _ hm (by simp [h4])
      · exact hMy _ hm (by simp [h4])
    have hst : St [0] W oW W' (fun b => if b < W.heap.size then oW b else 0) := ⟨hs.os, hs.tape, hs.output, hs.size, fun b hb _ => by simp [hb], fun b hb hn => hs.kept b hb (nk b hb hn)⟩
    have hlk : Lk Lm Lr Le Li W' (fun b => if b < W.heap.size then oW b else 0) oe' := fun b hb => by
      by_cases hlt : b < W.heap.size
      · simp only [hlt, if_true]
        by_cases h0 : oW b = 0
        · exact .inl h0
        · rw [hs.lab b hlt (nk b hlt (by simpa using h0))]
          exact hl b hlt
      · exact .inl (by simp [hlt])
    exact ⟨b, rfl, _, hst, fun hb => ⟨oe', ht hb, hlk⟩, fun hb => ⟨oe', hf hb, hlk⟩⟩
  · rintro W oW ⟨oe, hj, _⟩; exact ⟨oe, .inl hj⟩
  · rintro W oW ⟨oe, hj, _⟩; exact ⟨oe, .inr hj⟩
  · by_cases hm : o1 b ∈ Lm
    · refine .inr (.inl ⟨Lm.idxOf (o1 b), by simp only [hm, if_true], ?_⟩)
      rw [List.getElem?_eq_getElem (List.idxOf_lt_length_iff.2 hm), List.getElem_idxOf]
    · by_cases he : Le = some (o1 b)
      · exact .inr (.inr (.inl ⟨by simp only [hm, he, if_true, if_false], .inl he⟩))
      · by_cases hr : o1 b ∈ Lr
        · exact .inr (.inr (.inr (.inl ⟨by simp only [hm, he, hr, if_true, if_false], .inl hr⟩)))
        · exact .inl (by simp only [hm, he, hr, if_false])
theorem evc_row {β : Type} {E : Enc β} {L : Nat} {x : List β} {vs : List Value} (h : EvC (fun (x_ : List β) vs_ w_ => ∃ A_ c_, vs_ = [.slice A_ (x_).length c_] ∧ (x_).length ≤ c_ ∧ RdC E A_ x_ w_) (some L) x vs w o) :
    ∃ A c, vs = [.slice A x.length c] ∧ x.length ≤ c ∧ Ft (RdC E A x) w o L := by
  obtain ⟨A, c, rfl, hc, _⟩ := EvC.now h
  refine ⟨A, c, rfl, hc, Ft.imp h fun w' h' => ?_⟩
  obtain ⟨A', c', he, _, hr⟩ := h'
  injection he with he _
  injection he with hA _ _
  rw [hA]; exact hr
theorem consS {x : α} {o : Option (List α)} {r : List α} (h : o.map (List.cons x) = some r) : ∃ r', r = x :: r' ∧ o = some r' := by
  cases o with
  | none => cases h
  | some r' => exact ⟨r', (Option.some.inj h).symm, rfl⟩
end
end Go.Proofs.XC
