/- Words of an own calculus over the model: how a call's frame, rows and boxes go through its operations. -/
import Derived.Test.YtmgopcmdljhjoaaY3
import Derived.Sort.LoopGhostIn
import Derived.OrdersIn
import Derived.RangeFuncRecord
set_option linter.unusedSimpArgs false
set_option linter.unusedVariables false
namespace Go.Proofs.XC
open Go

/-- No fence; within a round of loop l, where ρ is some l. -/
def WF (ρ : Option Nat) : Fence := { Fence.wide with round := ρ }
theorem wf_calls {ρ : Option Nat} {m : Nat} {P : Program} {f : FuncId} {args : Array Value} {w : World} {R : Ending → World → Prop} (h : Calls P f args w R) : CallsIn (WF ρ) m P f args w R :=
  (callsIn_wide (n := m)).2 h
theorem defer_not {P : Program} {w w' : World} {ev : Operand → Value} {o : Oper} {c : Call} {x : Next} (hc : o.op = .defer c) (h : (execOp ev o).run P w = .ok x w') : ∃ d, x = .defer d := by
  simp only [execOp, hc, Sem.run_bind] at h
  cases hr : (resolve ev c o.type).run P w with
  | ok d w1 =>
    rw [hr] at h
    simp only [Result.andThen_ok, Sem.run_pure] at h
    injection h with h _
    exact ⟨d, h.symm⟩
  | halt e w1 => rw [hr] at h; cases h
theorem wf_res {ρ : Option Nat} {P : Program} {w w' : World} {ev : Operand → Value} {o : Oper} {x : Next} (hx : ∀ d, x ≠ .defer d) (h : (execOp ev o).run P w = .ok x w') : (o.semAt ρ ev).run P w = .ok x w' := by
  rw [Oper.semAt_eq ρ ev o (fun c hc => by obtain ⟨d, hd⟩ := defer_not hc h; exact hx d hd)]; exact h
theorem wf_value {ρ : Option Nat} {P : Program} {w w' : World} {a : Act} {o : Oper} {v : Value} {K : Act → World → Prop} {Q : Exit → Act → World → Prop} (h : (execOp a.eval o).run P w = .ok (.value v) w') (hK : K (a.put o.dst v) w') : o.wpIn (WF ρ) 0 P a w K Q :=
  ⟨fun _ _ => trivial, by
    have e : (o.semAt (WF ρ).round a.eval).run P w = .ok (.value v) w' := wf_res (fun d hd => by cases hd) h
    rw [e]; exact hK⟩
theorem wf_skip {ρ : Option Nat} {P : Program} {w w' : World} {a : Act} {o : Oper} {K : Act → World → Prop} {Q : Exit → Act → World → Prop} (h : (execOp a.eval o).run P w = .ok .skip w') (hK : K (a.put o.dst undef) w') : o.wpIn (WF ρ) 0 P a w K Q :=
  ⟨fun _ _ => trivial, by
    have e : (o.semAt (WF ρ).round a.eval).run P w = .ok .skip w' := wf_res (fun d hd => by cases hd) h
    rw [e]; exact hK⟩
theorem wf_enter {ρ : Option Nat} {P : Program} {w w' : World} {a : Act} {o : Oper} {f : FuncId} {args : Array Value} {R : Ending → World → Prop} {K : Act → World → Prop} {Q : Exit → Act → World → Prop} (h : (execOp a.eval o).run P w = .ok (.enter f args) w') (hc : Calls P f args w' R) (hK : ∀ e w2, R e w2 → ∃ v, e = .returned v ∧ K (a.put o.dst v) w2) : o.wpIn (WF ρ) 0 P a w K Q :=
  ⟨fun _ _ => trivial, by
    have e : (o.semAt (WF ρ).round a.eval).run P w = .ok (.enter f args) w' := wf_res (fun d hd => by cases hd) h
    rw [e, Oper.uponIn_enter]
    refine ⟨fun hd => (by cases hd), CallsIn.mono (wf_calls hc) fun en w2 hr => ?_⟩
    obtain ⟨v, rfl, hk⟩ := hK en w2 hr
    exact hk⟩
/-! ### Runs of operations that leave memory alone; what loads yield is handed in -/
abbrev Cond := World → Prop
def ConjW (w : World) : List Cond → Prop
  | [] => True
  | c :: l => c w ∧ ConjW w l
theorem ConjW.append {w : World} {l m : List Cond} : ConjW w (l ++ m) → ConjW w l ∧ ConjW w m := by
  induction l with
  | nil => exact fun h => ⟨trivial, h⟩
  | cons p l ih => exact fun h => ⟨⟨h.1, (ih h.2).1⟩, (ih h.2).2⟩
theorem ConjW.lift {w : World} : ∀ {l : List Prop}, ConjW w (l.map fun p => fun _ => p) → Conj l
  | [], _ => trivial
  | _ :: _, h => ⟨h.1, ConjW.lift h.2⟩

def guardP (ops : List Oper) (e : Env) (o : Oper) : Option Bool :=
  match o.guard with
  | none => some true
  | some (j, want) => match ops[j]? with
    | some oj => match oj.dst with
      | some d => match look e d with
        | some (.bool b) => some (b == want)
        | some (.tuple _) => some false
        | _ => none
      | none => none
    | none => none

/-- Whatever is asked of memory: an operation yields v, its operands being as they are. -/
def AskIs (P : Program) (e : Env) (o : Oper) (v : Value) (w : World) : Prop := ∀ ρ : Operand → Value, (∀ x u, evo e x = some u → ρ x = u) → (execOp ρ o).run P w = .ok (.value v) w
/-- One quiet operation: its value, what is asked, the loads' values that are left. -/
def quietP (P : Program) (T : Tab) (e : Env) (o : Oper) (lv : List Value) : Option (Value × List Cond × List Value) :=
  match o.op with
  | .load t x => match evo e x, lv with
    | some (.pointer (some ad)), v :: lv' => some (v, [LoadIs P t ad v], lv')
    | _, _ => none
  | op => match evalP T (evo e) op with
    | some (v, cs) => some (v, cs.map fun p => fun _ => p, lv)
    | none => match lv with
      | v :: lv' => some (v, [AskIs P e o v], lv')
      | [] => none

def putE (n : Nat) (d : Option Tmp) (v : Value) (e : Env) : Option Env :=
  match d with
  | some d => bif Nat.blt d n then some ((d, v) :: e) else none
  | none => some e

def runP (P : Program) (T : Tab) (n : Nat) (ops : List Oper) : Nat → List Oper → Env → List Value → List Cond → Option (Env × List Cond × List Oper)
  | 0, l, e, _, cs => some (e, cs, l)
  | _ + 1, [], _, _, _ => none
  | k + 1, o :: l, e, lv, cs => match guardP ops e o with
    | some true => match quietP P T e o lv with
      | some (v, c, lv') => match putE n o.dst v e with
        | some e' => runP P T n ops k l e' lv' (cs ++ c)
        | none => none
      | none => none
    | some false => match putE n o.dst undef e with
      | some e' => runP P T n ops k l e' lv cs
      | none => none
    | none => none

def pick (e : Env) : List Nat → Option Env
  | [] => some []
  | k :: ks => match look e k, pick e ks with
    | some v, some r => some ((k, v) :: r)
    | _, _ => none
theorem pick_sub {e : Env} : ∀ {ks : List Nat} {r : Env}, pick e ks = some r → ∀ t v, look r t = some v → look e t = some v
  | [], r, h, t, v, hv => by simp only [pick, Option.some.injEq] at h; subst h; simp [look] at hv
  | k :: ks, r, h, t, v, hv => by
    simp only [pick] at h
    split at h <;> simp at h
    rename_i u q hu hq
    subst h
    simp only [look] at hv
    cases hb : Nat.beq k t with
    | true =>
      have := Nat.eq_of_beq_eq_true hb
      subst this
      simp only [hb, cond_true, Option.some.injEq] at hv
      subst hv; exact hu
    | false =>
      simp only [hb, cond_false] at hv
      exact pick_sub hq t v hv
def runK (P : Program) (T : Tab) (n : Nat) (ops : List Oper) (k : Nat) (l : List Oper) (e : Env) (lv : List Value) (ks : List Nat) : Option (Env × List Cond × List Oper) :=
  match runP P T n ops k l e lv [] with
  | some (e', cs, l') => match pick e' ks with
    | some r => some (r, cs, l')
    | none => none
  | none => none

section
variable {ρ : Option Nat} {ds : List Deferred} {P : Program} {T : Tab} {n : Nat} {a : Act} {e : Env} {w : World} {ops : List Oper} {Q : Exit → Act → World → Prop}

theorem KnD.putE (h : KnD n ds a e) {d : Option Tmp} {v : Value} {e' : Env} (hp : XC.putE n d v e = some e') : KnD n ds (a.put d v) e' := by
  cases d with
  | none => simp only [XC.putE, Option.some.injEq] at hp; subst hp; exact h
  | some d =>
    simp only [XC.putE] at hp
    cases hb : Nat.blt d n with
    | true => simp only [hb, cond_true, Option.some.injEq] at hp; subst hp; exact h.put d v hb
    | false => simp [hb] at hp
theorem guardP_sound (h : KnD n ds a e) {o : Oper} {b : Bool} (hg : guardP ops e o = some b) : Region.wanted o (yielded ops.toArray a.tmps) = b := by
  unfold guardP at hg
  unfold Region.wanted
  split at hg
  · rename_i ho
    simp only [Option.some.injEq] at hg
    subst hg
    simp [ho]
  · rename_i j want ho
    split at hg <;> try (simp at hg; done)
    rename_i oj hj
    split at hg <;> try (simp at hg; done)
    rename_i d hd
    split at hg <;> simp at hg
    · rename_i bb hl
      subst hg
      have hy : yielded ops.toArray a.tmps j = some bb := by
        unfold yielded
        simp [hj, hd, h.at_ _ _ hl]
      simp only [ho, hy]
      cases bb <;> cases want <;> rfl
    · rename_i vs hl
      subst hg
      have hy : yielded ops.toArray a.tmps j = none := by
        unfold yielded
        simp [hj, hd, h.at_ _ _ hl]
      simp [ho, hy]
theorem quietP_sound (ht : TabOK P T) (h : KnD n ds a e) {o : Oper} {lv lv' : List Value} {v : Value} {cs : List Cond} (hq : quietP P T e o lv = some (v, cs, lv')) (hc : ConjW w cs) :
    (execOp a.eval o).run P w = .ok (.value v) w := by
  unfold quietP at hq
  split at hq
  · rename_i t x ho
    split at hq <;> simp at hq
    rename_i ad u lv2 hx
    obtain ⟨rfl, rfl, rfl⟩ := hq
    have := hc.1
    unfold LoadIs at this
    simp [execOp, ho, Instr.loadAt, h.ev hx, Instr.sureAddr, this]
  · split at hq
    · simp only [Option.some.injEq, Prod.mk.injEq] at hq
      rename_i u c he
      obtain ⟨rfl, rfl, rfl⟩ := hq
      exact evalP_sound ht (fun x v hv => h.ev hv) he (ConjW.lift hc)
    · split at hq <;> simp at hq
      obtain ⟨rfl, rfl, rfl⟩ := hq
      exact hc.1 a.eval (fun x u hx => h.ev hx)
theorem wpl_quiet {o : Oper} {rest : List Oper} {v : Value} (hw : Region.wanted o (yielded ops.toArray a.tmps) = true) (hr : (execOp a.eval o).run P w = .ok (.value v) w)
    (h : wpListIn (WF ρ) 0 P ops.toArray Q rest (a.put o.dst v) w) : wpListIn (WF ρ) 0 P ops.toArray Q (o :: rest) a w := by
  unfold wpListIn
  rw [if_pos hw]
  exact wf_value hr h
theorem wpl_run (ht : TabOK P T) : ∀ (k : Nat) (l : List Oper) (a : Act) (e : Env) (lv : List Value) (cs0 : List Cond) (e' : Env) (cs : List Cond) (l' : List Oper), KnD n ds a e →
    runP P T n ops k l e lv cs0 = some (e', cs, l') → (∃ cs1, cs = cs0 ++ cs1 ∧ (ConjW w cs1 → (∀ a', KnD n ds a' e' → wpListIn (WF ρ) 0 P ops.toArray Q l' a' w) → wpListIn (WF ρ) 0 P ops.toArray Q l a w))
  | 0, l, a, e, lv, cs0, e', cs, l', hk, hr => by
    simp only [runP, Option.some.injEq, Prod.mk.injEq] at hr
    obtain ⟨rfl, rfl, rfl⟩ := hr
    exact ⟨[], by simp, fun _ h => h a hk⟩
  | k + 1, [], a, e, lv, cs0, e', cs, l', hk, hr => by simp [runP] at hr
  | k + 1, o :: l, a, e, lv, cs0, e', cs, l', hk, hr => by
    simp only [runP] at hr
    split at hr
    · rename_i hg
      split at hr
      · rename_i v c lv' hq
        split at hr
        · rename_i e1 hp
          obtain ⟨cs1, rfl, h1⟩ := wpl_run ht k l (a.put o.dst v) e1 lv' (cs0 ++ c) e' cs l' (hk.putE hp) hr
          refine ⟨c ++ cs1, by simp, fun hc h => ?_⟩
          obtain ⟨hc1, hc2⟩ := ConjW.append hc
          exact wpl_quiet (guardP_sound hk hg) (quietP_sound ht hk hq hc1) (h1 hc2 h)
        · simp at hr
      · simp at hr
    · rename_i hg
      split at hr
      · rename_i e1 hp
        obtain ⟨cs1, rfl, h1⟩ := wpl_run ht k l (a.put o.dst undef) e1 lv cs0 e' cs l' (hk.putE hp) hr
        refine ⟨cs1, rfl, fun hc h => ?_⟩
        unfold wpListIn
        rw [if_neg (by rw [guardP_sound hk hg]; simp)]
        exact ⟨fun _ _ => trivial, h1 hc h⟩
      · simp at hr
    · simp at hr
/-- A stretch of quiet operations. -/
theorem x_run (ht : TabOK P T) (hk : KnD n ds a e) {k : Nat} {l l' : List Oper} {lv : List Value} {ks : List Nat} {e' : Env} {cs : List Cond} (hr : runK P T n ops k l e lv ks = some (e', cs, l'))
    (hc : ConjW w cs) (h : ∀ a', KnD n ds a' e' → wpListIn (WF ρ) 0 P ops.toArray Q l' a' w) : wpListIn (WF ρ) 0 P ops.toArray Q l a w := by
  unfold runK at hr
  split at hr
  · rename_i e1 cs1 l1 hr1
    split at hr <;> simp at hr
    rename_i r hp
    obtain ⟨rfl, rfl, rfl⟩ := hr
    obtain ⟨cs2, he, h1⟩ := wpl_run ht k l a e lv [] e1 cs1 l1 hk hr1
    simp only [List.nil_append] at he
    subst he
    exact h1 hc fun a' hk' => h a' (hk'.sub (pick_sub hp))
  · simp at hr
/-- A region that is quiet as a whole. -/
theorem x_reg (ht : TabOK P T) (hk : KnD n ds a e) {id k : Nat} {lv : List Value} {ks : List Nat} {e' : Env} {cs : List Cond} (hr : runK P T n ops k ops e lv ks = some (e', cs, []))
    (hc : ConjW w cs) (h : ∀ a', KnD n ds a' e' → Q .normal a' w) : (Code.region id ops.toArray false).wpIn (WF ρ) 0 P Q a w :=
  wpIn_region_lit (x_run ht hk hr hc fun a' hk' => wpListIn_nil (h a' hk'))

/-! ### Continuations -/
variable {K : Act → World → Prop}
theorem then_n (h : K a w) : Exit.then K Q .normal a w := h
theorem then_x {i : Nat} (h : Q (.exit i) a w) : Exit.then K Q (.exit i) a w := h
theorem then_r (h : Q .ret a w) : Exit.then K Q .ret a w := h
theorem then_g {i : Nat} (h : Q (.goto i) a w) : Exit.then K Q (.goto i) a w := h
theorem blk_n {i : Nat} (h : Q .normal a w) : Exit.inBlock i Q .normal a w := h
theorem blk_r {i : Nat} (h : Q .ret a w) : Exit.inBlock i Q .ret a w := h
theorem blk_x {i : Nat} (h : Q .normal a w) : Exit.inBlock i Q (.exit i) a w := by simp only [Exit.inBlock, if_true]; exact h
theorem blk_y {i j : Nat} (hij : Nat.beq j i = false) (h : Q (.exit j) a w) : Exit.inBlock i Q (.exit j) a w := by
  have : j ≠ i := fun e => by rw [e, Nat.beq_refl] at hij; cases hij
  simp only [Exit.inBlock, if_neg this]; exact h
theorem x_seq {x y : Code} (h : x.wpIn (WF ρ) 0 P (Exit.then (y.wpIn (WF ρ) 0 P Q) Q) a w) : (Code.seq x y).wpIn (WF ρ) 0 P Q a w := wpIn_seq h
/-- Behind x stands M. -/
theorem x_mid {x y : Code} (M : Act → World → Prop) (h : x.wpIn (WF ρ) 0 P (Exit.then M Q) a w) (h2 : ∀ a w, M a w → y.wpIn (WF ρ) 0 P Q a w) : (Code.seq x y).wpIn (WF ρ) 0 P Q a w :=
  wpIn_seq (wpIn_mono h fun e a w he => by cases e <;> first | exact h2 _ _ he | exact he)
theorem x_if (hk : KnD n ds a e) {c : Operand} {x y : Code} {b : Bool} (hb : evo e c = some (.bool b)) (h : (bif b then x else y).wpIn (WF ρ) 0 P Q a w) : (Code.cond c x y).wpIn (WF ρ) 0 P Q a w := by
  cases b with
  | true => exact wpIn_cond_true (hk.ev hb) h
  | false => exact wpIn_cond_false (hk.ev hb) h
/-- A loop, its rounds counted down. -/
theorem x_loop {c : Code} (I : Nat → Act → World → Prop) {k : Nat} (h0 : I k a w) (hz : ∀ a w, ¬ I 0 a w)
    (round : ∀ k a w, I (k + 1) a w → c.wpIn (WF ρ) 0 P (Exit.then (fun a w => ∃ j, j ≤ k ∧ I j a w) Q) a w) : (Code.loop c).wpIn (WF ρ) 0 P Q a w := by
  refine wpIn_loop_ghost I k h0 fun m a w hI => ?_
  cases m with
  | zero => exact absurd hI (hz a w)
  | succ m =>
    refine wpIn_mono (round m a w hI) fun e a' w' he => ?_
    cases e <;> first | exact he | skip
    obtain ⟨j, hj, hIj⟩ := he
    exact ⟨j, Nat.lt_succ_of_le hj, hIj⟩

/-! ### The function's begin and end -/
def Ret (Φ : Value → World → Prop) : Ending → World → Prop := fun e w => ∃ v, e = .returned v ∧ Φ v w
def entryE : Nat → List Value → Env
  | _, [] => []
  | i, v :: l => (i, v) :: entryE (i + 1) l
theorem look_entry : ∀ (l : List Value) (i t : Nat) (v : Value), look (entryE i l) t = some v → ∃ j, t = i + j ∧ l[j]? = some v
  | [], i, t, v, h => by simp [entryE, look] at h
  | u :: l, i, t, v, h => by
    simp only [entryE, look] at h
    cases hb : Nat.beq i t with
    | true =>
      have := Nat.eq_of_beq_eq_true hb
      subst this
      simp only [hb, cond_true, Option.some.injEq] at h
      exact ⟨0, rfl, by simp [h]⟩
    | false =>
      simp only [hb, cond_false] at h
      obtain ⟨j, rfl, hj⟩ := look_entry l (i + 1) t v h
      exact ⟨j + 1, by omega, by simpa using hj⟩
theorem x_enter {f : FuncId} {fn : Func} {c : Code} {vs : List Value} {R : Ending → World → Prop} (hf : P.funcs[f]? = some fn) (hb : fn.body = some c) (hn : fn.ntmps = n) (hl : Nat.ble vs.length n = true)
    (h : ∀ a, KnD n [] a (entryE 0 vs) → c.wpIn (WF none) 0 P (bodyPost P fn R) a w) : Calls P f vs.toArray w R := by
  subst hn
  have hl' : vs.length ≤ fn.ntmps := by simpa using hl
  refine calls_of_wp hf hb ((wpIn_wide (n := 0)).1 (h _ ⟨by simp; omega, rfl, fun t v hv => ?_⟩))
  obtain ⟨j, rfl, hj⟩ := look_entry vs 0 t v hv
  have hjl : j < vs.length := (List.getElem?_eq_some_iff.1 hj).1
  simp only [Nat.zero_add]
  rw [Array.getElem?_append_left (by simpa using hjl)]
  simpa using hj
theorem x_ret1 {fn : Func} {t : Nat} {v : Value} {Φ : Value → World → Prop} (hk : KnD n [] a e) (hr : fn.results = #[.tmp t]) (hv : look e t = some v) (h : Φ v w) : bodyPost P fn (Ret Φ) .ret a w :=
  ⟨hk.defers, v, by simp [results, hr, Array.getD_eq_getD_getElem?, hk.at_ _ _ hv], v, rfl, h⟩
theorem x_ret2 {fn : Func} {t u : Nat} {v v2 : Value} {Φ : Value → World → Prop} (hk : KnD n [] a e) (hr : fn.results = #[.tmp t, .tmp u]) (hv : look e t = some v) (hv2 : look e u = some v2)
    (h : Φ (.tuple #[v, v2]) w) : bodyPost P fn (Ret Φ) .ret a w :=
  ⟨hk.defers, _, by simp [results, hr, Array.getD_eq_getD_getElem?, hk.at_ _ _ hv, hk.at_ _ _ hv2], _, rfl, h⟩
theorem x_ret0 {fn : Func} {Φ : Value → World → Prop} (hk : KnD n [] a e) (hr : fn.results = #[]) (h : Φ (.tuple #[]) w) : bodyPost P fn (Ret Φ) .ret a w :=
  ⟨hk.defers, _, by simp [results, hr], _, rfl, h⟩
theorem x_end0 {fn : Func} {Φ : Value → World → Prop} (hk : KnD n [] a e) (hr : fn.results = #[]) (h : Φ (.tuple #[]) w) : bodyPost P fn (Ret Φ) .normal a w :=
  ⟨hk.defers, _, by simp [results, hr], _, rfl, h⟩
/-- Any results: each told. -/
theorem x_ret {fn : Func} {v : Value} {Φ : Value → World → Prop} (hk : KnD n [] a e) (hr : (results fn a.tmps).run P w = .ok v w) (h : Φ v w) : bodyPost P fn (Ret Φ) .ret a w :=
  ⟨hk.defers, v, hr, v, rfl, h⟩

/-! ### Operations that may turn the world, at 'Oper.wp' -/
def EntersF (P : Program) (f : FuncId) : Prop := ∀ args w, (callFunc f args).run P w = .ok (.enter f args) w
theorem enters_of' {f : FuncId} {fn : Func} (hf : P.funcs[f]? = some fn) (hn : (fn.name == "runtime.NumGoroutine") = false) (hb : fn.body.isSome = true) : EntersF P f := by
  intro args w
  have : fn.body ≠ none := by cases h : fn.body <;> simp [h] at hb ⊢
  simp only [beq_eq_false_iff_ne] at hn
  simp [callFunc, hf, hn, this]
theorem x_op {o : Oper} {rest : List Oper} (hk : KnD n ds a e) (hg : guardP ops e o = some true) (h : o.wpIn (WF ρ) 0 P a w (wpListIn (WF ρ) 0 P ops.toArray Q rest) Q) : wpListIn (WF ρ) 0 P ops.toArray Q (o :: rest) a w := by
  unfold wpListIn
  rw [if_pos (guardP_sound hk hg)]
  exact h
theorem op_call {d : Option Tmp} {f : FuncId} {args : Array Operand} {ts : Array TypeId} {ty : TypeId} {pos : String} {af : Array Edge} {g : Option (Nat × Bool)} {vs : List Value} {Φ : Value → World → Prop}
    (hk : KnD n ds a e) (he : EntersF P f) (hv : allSome (args.toList.map (evo e)) = some vs) (hc : Calls P f vs.toArray w (Ret Φ)) (h : ∀ v w', Φ v w' → K (a.put d v) w') :
    (Oper.mk d (.call { callee := .value (.func f), args := args, argTypes := ts }) ty pos af g).wpIn (WF ρ) 0 P a w K Q := by
  have h1 := allSome_map (ev := evo e) (ρ := a.eval) (fun x v hx => hk.ev hx) _ _ hv
  have h2 : args.map a.eval = vs.toArray := Array.toList_inj.1 (by simpa using h1)
  have h3 : (execOp a.eval (Oper.mk d (.call { callee := .value (.func f), args := args, argTypes := ts }) ty pos af g)).run P w = .ok (.enter f vs.toArray) w := by
    simp [execOp, resolve, Act.eval, Deferred.ofValue, invoke, h2, he _ w]
  exact wf_enter h3 hc fun en w' ⟨v, hen, hΦ⟩ => ⟨v, hen, h v w' hΦ⟩
theorem op_callv {d : Option Tmp} {t : Nat} {f : FuncId} {args : Array Operand} {ts : Array TypeId} {ty : TypeId} {pos : String} {af : Array Edge} {g : Option (Nat × Bool)} {vs : List Value} {fi ca : Array Value} {Φ : Value → World → Prop}
    (hk : KnD n ds a e) (he : EntersF P f) (hf : look e t = some (.func (.func f) fi ca)) (hv : allSome (args.toList.map (evo e)) = some vs) (hc : Calls P f (fi ++ vs.toArray ++ ca) w (Ret Φ)) (h : ∀ v w', Φ v w' → K (a.put d v) w') :
    (Oper.mk d (.call { callee := .value (.tmp t), args := args, argTypes := ts }) ty pos af g).wpIn (WF ρ) 0 P a w K Q := by
  have h1 := allSome_map (ev := evo e) (ρ := a.eval) (fun x v hx => hk.ev hx) _ _ hv
  have h2 : args.map a.eval = vs.toArray := Array.toList_inj.1 (by simpa using h1)
  have h4 : a.eval (.tmp t) = .func (.func f) fi ca := hk.ev (x := .tmp t) hf
  have h3 : (execOp a.eval (Oper.mk d (.call { callee := .value (.tmp t), args := args, argTypes := ts }) ty pos af g)).run P w = .ok (.enter f (fi ++ vs.toArray ++ ca)) w := by
    simp [execOp, resolve, h4, Deferred.ofValue, invoke, h2, he _ w]
  exact wf_enter h3 hc fun en w' ⟨v, hen, hΦ⟩ => ⟨v, hen, h v w' hΦ⟩
end
end Go.Proofs.XC
