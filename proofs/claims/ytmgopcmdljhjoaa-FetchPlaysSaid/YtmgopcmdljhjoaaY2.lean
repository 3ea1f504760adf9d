/- Words of an own calculus over the model: how a call's frame, rows and boxes go through its operations. -/
import Derived.Test.YtmgopcmdljhjoaaY1
set_option linter.unusedSimpArgs false
set_option linter.unusedVariables false
namespace Go.Proofs.XC
open Go
section
variable {P : Program} {T : Tab} {w : World}

theorem allSome_mem {α : Type} : ∀ {l : List (Option α)} {r : List α}, allSome l = some r → l = r.map some
  | [], r, h => by simp only [allSome, Option.some.injEq] at h; subst h; rfl
  | some v :: l, r, h => by
    simp only [allSome] at h
    cases hl : allSome l with
    | none => simp [hl] at h
    | some q => simp only [hl, Option.some.injEq] at h; subst h; rw [allSome_mem hl]; rfl
  | none :: l, r, h => by simp [allSome] at h

theorem allSome_map {ev : Operand → Option Value} {ρ : Operand → Value} (hev : ∀ x v, ev x = some v → ρ x = v) : ∀ (l : List Operand) (r : List Value), allSome (l.map ev) = some r → l.map ρ = r
  | [], r, h => by simp only [List.map_nil, allSome, Option.some.injEq] at h; subst h; rfl
  | x :: l, r, h => by
    simp only [List.map_cons] at h
    cases hx : ev x with
    | none => simp [hx, allSome] at h
    | some v =>
      simp only [hx, allSome] at h
      cases hl : allSome (l.map ev) with
      | none => simp [hl] at h
      | some q =>
        simp only [hl, Option.some.injEq] at h
        subst h
        simp [hev x v hx, allSome_map hev l q hl]

theorem run_underlying' {t : Nat} {d : TypeDesc} (h : P.underlying t = some d) : (Go.underlying t).run P w = .ok d w := by
  simp [Go.underlying, h]
theorem run_typeInfo' {t : Nat} {i : TypeInfo} (h : P.info? t = some i) : (Go.typeInfo t).run P w = .ok i w := by
  simp [Go.typeInfo, h]
theorem run_sizeOf' (ht : TabOK P T) {t s b : Nat} {z : Value} (h : find T.inf t = some (s, b, z)) : (Go.sizeOf t).run P w = .ok s w := by
  obtain ⟨i, hi, rfl, _, _⟩ := ht.i h
  simp [Go.sizeOf, run_typeInfo' hi]
theorem run_zeroValue' (ht : TabOK P T) {t s b : Nat} {z : Value} (h : find T.inf t = some (s, b, z)) : (Go.zeroValue t).run P w = .ok z w := by
  obtain ⟨i, hi, rfl, _, hz⟩ := ht.i h
  simp [Go.zeroValue, run_typeInfo' hi, hz]
theorem run_isAgg' (ht : TabOK P T) {t : Nat} {b : Bool} (h : aggT T t = some b) : (Go.isAgg t).run P w = .ok b w := by
  unfold aggT at h
  cases hu : find T.und t with
  | none => simp [hu] at h
  | some d =>
    have := run_underlying' (w := w) (ht.u hu)
    cases d <;> simp [hu] at h <;> subst h <;> simp [Go.isAgg, this]

theorem equal_of {t : Nat} {a b : Value} {r : Bool} (h : ∀ n, (Op.equalIn (n + 1) t a b).run P w = .ok r w) : (Op.equal t a b).run P w = .ok r w := h 9999
theorem run_eq_of {t : Nat} {x y : Operand} {a b : Value} {r : Bool} (hb : binOp .eql t a b = (do pure (.bool (← Op.equal t a b))) ∧ (eqGuard .eql t x y a b = pure ()) := by exact ⟨rfl, rfl⟩)
    (h : (Op.equal t a b).run P w = .ok r w) : (do eqGuard .eql t x y a b; binOp .eql t a b).run P w = .ok (.bool r) w := by
  rw [hb.1, hb.2]
  simp [h]
theorem run_neq_of {t : Nat} {x y : Operand} {a b : Value} {r : Bool} (hb : binOp .neq t a b = (do pure (.bool (!(← Op.equal t a b)))) ∧ (eqGuard .neq t x y a b = pure ()) := by exact ⟨rfl, rfl⟩)
    (h : (Op.equal t a b).run P w = .ok r w) : (do eqGuard .neq t x y a b; binOp .neq t a b).run P w = .ok (.bool (!r)) w := by
  rw [hb.1, hb.2]
  simp [h]

theorem eq_bool {t : Nat} {a b : Bool} (hr : P.underlying t = some .bool) : (Op.equal t (.bool a) (.bool b)).run P w = .ok (a == b) w := by
  have hr' := run_underlying' (w := w) hr
  refine equal_of fun n => ?_
  simp [Op.equalIn, hr']
theorem eq_ptr {t e : Nat} {a : Option Addr} (hr : P.underlying t = some (.pointer e)) : (Op.equal t (.pointer a) (.pointer none)).run P w = .ok a.isNone w := by
  have hr' := run_underlying' (w := w) hr
  refine equal_of fun n => ?_
  cases a <;> simp [Op.equalIn, hr']
theorem eq_slice {t e l c l2 c2 : Nat} {a : Option Addr} (hr : P.underlying t = some (.slice e)) : (Op.equal t (.slice a l c) (.slice none l2 c2)).run P w = .ok a.isNone w := by
  have hr' := run_underlying' (w := w) hr
  refine equal_of fun n => ?_
  cases a <;> simp [Op.equalIn, hr']

theorem binP_sound (ht : TabOK P T) {op : BinOp} {t : Nat} {x y : Operand} {a b v : Value} {cs : List Prop} (h : binP T op t a b = some (v, cs)) (hc : Conj cs) :
    (do eqGuard op t x y a b; binOp op t a b).run P w = .ok v w := by
  cases a with
  | int k a =>
    cases b <;> try (simp [binP] at h; done)
    rename_i k' b
    cases op <;> simp only [binP] at h
    case shl =>
      simp only [Option.some.injEq, Prod.mk.injEq] at h
      obtain ⟨rfl, rfl⟩ := h
      have : ¬ b < 0 := by have := hc.1; omega
      simp [eqGuard, binOp, Op.shift, this, wr]
    case shr =>
      simp only [Option.some.injEq, Prod.mk.injEq] at h
      obtain ⟨rfl, rfl⟩ := h
      have : ¬ b < 0 := by have := hc.1; omega
      simp [eqGuard, binOp, Op.shift, this, wr]
    all_goals
      by_cases hk : k = k'
      · subst hk
        simp only [if_true, pureV, Option.some.injEq, Prod.mk.injEq] at h
        obtain ⟨rfl, rfl⟩ := h
        first
        | (simp [eqGuard, binOp, Op.intArith, Op.intCmp, wr]; done)
        | (have hb : ¬ b = 0 := hc.1
           simp [eqGuard, binOp, Op.intDiv, hb, wr]; done)
        | (simp only [eqGuard, binOp]; simp [intBits_and, intBits_or, intBits_xor, intBits_andNot]; done)
      · simp [hk] at h
  | string a =>
    cases b <;> try (simp [binP] at h; done)
    rename_i b
    cases op <;> simp only [binP, pureV, reduceCtorEq, Option.some.injEq, Prod.mk.injEq] at h
    case add =>
      obtain ⟨rfl, rfl⟩ := h
      have h1 : ¬ ((a.size + b.size : Nat) : Int) > IntKind.i64.max := by
        have := hc.1
        have e : IntKind.i64.max = 9223372036854775807 := by rfl
        rw [e]; omega
      simp [eqGuard, binOp, Op.stringOp]
      simpa using h1
    all_goals
      obtain ⟨rfl, rfl⟩ := h
      simp [eqGuard, binOp, Op.stringOp]
  | bool a =>
    cases b <;> try (simp [binP] at h; done)
    rename_i b
    cases hu : find T.und t with
    | none => cases op <;> simp [binP, hu] at h
    | some d =>
      cases op <;> cases d <;> simp [binP, hu, pureV] at h
      all_goals obtain ⟨rfl, rfl⟩ := h
      · exact run_eq_of ⟨rfl, rfl⟩ (eq_bool (ht.u hu))
      · exact run_neq_of ⟨rfl, rfl⟩ (eq_bool (ht.u hu))
  | pointer a =>
    cases b <;> try (simp [binP] at h; done)
    rename_i b
    cases b with
    | some b => simp [binP] at h
    | none =>
      cases hu : find T.und t with
      | none => cases op <;> simp [binP, hu] at h
      | some d =>
        cases op <;> cases d <;> simp [binP, hu, pureV] at h
        all_goals obtain ⟨rfl, rfl⟩ := h
        · exact run_eq_of ⟨rfl, rfl⟩ (eq_ptr (ht.u hu))
        · rw [show a.isSome = !a.isNone by cases a <;> rfl]
          exact run_neq_of ⟨rfl, rfl⟩ (eq_ptr (ht.u hu))
  | slice a l c =>
    cases b <;> try (simp [binP] at h; done)
    rename_i b l' c'
    cases b with
    | some b => simp [binP] at h
    | none =>
      cases hu : find T.und t with
      | none => cases op <;> simp [binP, hu] at h
      | some d =>
        cases op <;> cases d <;> simp [binP, hu, pureV] at h
        all_goals obtain ⟨rfl, rfl⟩ := h
        · exact run_eq_of ⟨rfl, rfl⟩ (eq_slice (ht.u hu))
        · rw [show a.isSome = !a.isNone by cases a <;> rfl]
          exact run_neq_of ⟨rfl, rfl⟩ (eq_slice (ht.u hu))
  | _ => cases b <;> simp [binP] at h

theorem run_unary {op : UnOp} {x v : Value} {cs : List Prop} (h : unP op x = some (v, cs)) : (Op.unary op x).run P w = .ok v w := by
  cases x <;> cases op <;> simp [unP, pureV] at h
  all_goals
    obtain ⟨rfl, rfl⟩ := h
    first
    | (simp [Op.unary, Op.intArith, wr]; done)
    | (simp only [Op.unary]; simp [intBits_xor]; done)
    | simp [Op.unary]

theorem run_convP (ht : TabOK P T) {s d : Nat} {x v : Value} {cs : List Prop} (h : convP T s d x = some (v, cs)) : (convert s d x).run P w = .ok v w := by
  unfold convP at h
  cases hs : find T.und s with
  | none => simp [hs] at h
  | some ds =>
    cases hd : find T.und d with
    | none => simp [hs, hd] at h
    | some dd =>
      have rs := run_underlying' (w := w) (ht.u hs)
      have rd := run_underlying' (w := w) (ht.u hd)
      cases ds <;> cases dd <;> cases x <;> simp [hs, hd, pureV] at h
      all_goals
        obtain ⟨rfl, rfl⟩ := h
        simp [convert, rs, rd, Conv.intToInt, wr]

theorem run_partP (ht : TabOK P T) {t : Nat} {c : Array Value} {off : Nat} {v : Value} (h : partP T t c off = some v) : (part t c off).run P w = .ok v w := by
  unfold partP at h
  cases ha : aggT T t with
  | none => simp [ha] at h
  | some b =>
    have hr := run_isAgg' (w := w) ht ha
    cases b with
    | true =>
      simp only [ha] at h
      cases hi : find T.inf t with
      | none => simp [hi] at h
      | some p =>
        obtain ⟨s, bb, z⟩ := p
        simp only [hi, Option.some.injEq] at h
        subst h
        simp [part, hr, run_sizeOf' ht hi]
    | false =>
      simp only [ha] at h
      simp [part, hr, h]

theorem minI_run {k : IntKind} : ∀ (l : List Value) (x r : Int), minI k x l = some r → (l.foldlM Builtin.min2 (.int k x)).run P w = .ok (.int k r) w
  | [], x, r, h => by simp only [minI, Option.some.injEq] at h; subst h; simp
  | .int _ y :: l, x, r, h => by
    simp only [minI] at h
    simp only [List.foldlM_cons, Builtin.min2]
    rw [pure_bind]
    exact minI_run l _ r h
  | .bool _ :: _, _, _, h | .float _ _ :: _, _, _, h | .complex _ _ _ :: _, _, _, h | .string _ :: _, _, _, h | .pointer _ :: _, _, _, h | .slice _ _ _ :: _, _, _, h | .map _ :: _, _, _, h | .chan _ :: _, _, _, h
  | .func _ _ _ :: _, _, _, h | .nilFunc :: _, _, _, h | .iface _ _ :: _, _, _, h | .nilIface :: _, _, _, h | .agg _ :: _, _, _, h | .tuple _ :: _, _, _, h => by simp [minI] at h
theorem maxI_run {k : IntKind} : ∀ (l : List Value) (x r : Int), maxI k x l = some r → (l.foldlM Builtin.max2 (.int k x)).run P w = .ok (.int k r) w
  | [], x, r, h => by simp only [maxI, Option.some.injEq] at h; subst h; simp
  | .int _ y :: l, x, r, h => by
    simp only [maxI] at h
    simp only [List.foldlM_cons, Builtin.max2]
    rw [pure_bind]
    exact maxI_run l _ r h
  | .bool _ :: _, _, _, h | .float _ _ :: _, _, _, h | .complex _ _ _ :: _, _, _, h | .string _ :: _, _, _, h | .pointer _ :: _, _, _, h | .slice _ _ _ :: _, _, _, h | .map _ :: _, _, _, h | .chan _ :: _, _, _, h
  | .func _ _ _ :: _, _, _, h | .nilFunc :: _, _, _, h | .iface _ _ :: _, _, _, h | .nilIface :: _, _, _, h | .agg _ :: _, _, _, h | .tuple _ :: _, _, _, h => by simp [maxI] at h

theorem run_builtinP (ht : TabOK P T) {b : Builtin} {ts : Array TypeId} {ty : TypeId} {cn : Array Bool} {vs : List Value} {v : Value} {cs : List Prop} (h : builtinP T b ts vs = some (v, cs)) :
    (builtin b ts ty cn vs.toArray).run P w = .ok (.value v) w := by
  have key : ∀ {t : Nat} {d : TypeDesc}, (ts[0]?).bind (find T.und) = some d → ∃ t, ts[0]? = some t ∧ P.underlying t = some d := by
    intro t d hd
    obtain ⟨t, h1, h2⟩ := Option.bind_eq_some_iff.1 hd
    exact ⟨t, h1, ht.u h2⟩
  unfold builtinP at h
  split at h
  · rename_i s
    split at h <;> simp [pureV] at h
    rename_i hd
    obtain ⟨rfl, rfl⟩ := h
    obtain ⟨t, h1, h2⟩ := key (t := 0) hd
    have hu := run_underlying' (w := w) h2
    simp [builtin, Builtin.len_, h1, hu, goInt]
  · rename_i a n c
    split at h <;> simp [pureV] at h
    rename_i e hd
    obtain ⟨rfl, rfl⟩ := h
    obtain ⟨t, h1, h2⟩ := key (t := 0) hd
    have hu := run_underlying' (w := w) h2
    simp [builtin, Builtin.len_, h1, hu, goInt]
  · rename_i a n c
    split at h <;> simp [pureV] at h
    rename_i e hd
    obtain ⟨rfl, rfl⟩ := h
    obtain ⟨t, h1, h2⟩ := key (t := 0) hd
    have hu := run_underlying' (w := w) h2
    simp [builtin, Builtin.cap_, h1, hu, goInt]
  · rename_i k x l
    split at h <;> simp [pureV] at h
    rename_i r hr
    obtain ⟨rfl, rfl⟩ := h
    simp [builtin, Builtin.min_, minI_run l x r hr]
  · rename_i k x l
    split at h <;> simp [pureV] at h
    rename_i r hr
    obtain ⟨rfl, rfl⟩ := h
    simp [builtin, Builtin.max_, maxI_run l x r hr]
  · simp at h
end
end Go.Proofs.XC
