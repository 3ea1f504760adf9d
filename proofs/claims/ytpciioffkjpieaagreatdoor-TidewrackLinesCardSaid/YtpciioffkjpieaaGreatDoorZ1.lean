/- Words of an own calculus over the model: how a call's frame, rows and boxes go through its operations. -/
import Derived.WalkKit
import Derived.OrdersHeld
import Derived.Sort.LoopGhostIn
import Derived.OrdersIn
import Derived.RangeFuncRecord
import Derived.Maps.AppendAt
import Derived.Below
import Derived.Laws.BytesArg
import Derived.Laws.MakeOwn
import Derived.KernelRfl
/-! An own calculus of walks: frames as lists, and an evaluator of what leaves memory alone. -/
namespace Go.Proofs.XC
open Go

abbrev Env := List (Nat × Value)
def look : Env → Nat → Option Value
  | [], _ => none
  | (k, v) :: e, t => bif Nat.beq k t then some v else look e t
def evo (e : Env) : Operand → Option Value
  | .tmp t => look e t
  | .const v => some v
  | .global g => some (.pointer (some ⟨g, 0, none⟩))
  | .func f => some (.func (.func f) #[] #[])

/-- What is known of a frame. -/
structure KnD (n : Nat) (ds : List Deferred) (a : Act) (e : Env) : Prop where
  size : a.tmps.size = n
  defers : a.defers = ds
  at_ : ∀ t v, look e t = some v → a.tmps[t]? = some v
abbrev Kn (n : Nat) (a : Act) (e : Env) : Prop := KnD n [] a e

section
variable {n : Nat} {ds : List Deferred} {a : Act} {e e' : Env}
theorem KnD.ev (h : KnD n ds a e) {x : Operand} {v : Value} (hx : evo e x = some v) : a.eval x = v := by
  cases x with
  | tmp t => simp only [evo] at hx; simp [Act.eval, Array.getD_eq_getD_getElem?, h.at_ t v hx]
  | const u => simpa [evo, Act.eval] using hx
  | global g => simpa [evo, Act.eval] using hx
  | func f => simpa [evo, Act.eval] using hx
theorem KnD.put (h : KnD n ds a e) (d : Nat) (v : Value) (hd : Nat.blt d n = true) : KnD n ds (a.put (some d) v) ((d, v) :: e) := by
  have hd' : d < n := by simpa [Nat.blt_eq] using hd
  refine ⟨by simp [Act.put, h.size], by simp [Act.put, h.defers], fun t u ht => ?_⟩
  simp only [Act.put]
  simp only [look] at ht
  by_cases hk : d = t
  · subst hk
    simp only [Nat.beq_refl, cond_true, Option.some.injEq] at ht
    subst ht
    rw [Array.getElem?_setIfInBounds]
    simp [h.size, hd']
  · have : Nat.beq d t = false := by
      cases hb : Nat.beq d t with
      | false => rfl
      | true => exact absurd (Nat.eq_of_beq_eq_true hb) hk
    simp only [this, cond_false] at ht
    rw [Array.getElem?_setIfInBounds, if_neg hk]
    exact h.at_ t u ht
/-- Less may be known. -/
theorem KnD.sub (h : KnD n ds a e) (hs : ∀ t v, look e' t = some v → look e t = some v) : KnD n ds a e' := ⟨h.size, h.defers, fun t v ht => h.at_ t v (hs t v ht)⟩
def keep (ks : List Nat) : Env → Env
  | [] => []
  | (k, v) :: e => bif ks.any (Nat.beq k) then (k, v) :: keep (ks.filter fun x => !Nat.beq k x) e else keep ks e
theorem look_keep (t : Nat) (v : Value) : ∀ (e : Env) (ks : List Nat), look (keep ks e) t = some v → look e t = some v ∧ t ∈ ks
  | [], _ => by simp [keep, look]
  | (k, u) :: e, ks => by
    intro h
    simp only [keep] at h
    cases ha : ks.any (Nat.beq k) with
    | true =>
      simp only [ha, cond_true, look] at h ⊢
      cases hb : Nat.beq k t with
      | true =>
        simp only [hb, cond_true] at h ⊢
        refine ⟨h, ?_⟩
        obtain ⟨x, hx, hxk⟩ := List.any_eq_true.1 ha
        have := Nat.eq_of_beq_eq_true hxk
        have h2 := Nat.eq_of_beq_eq_true hb
        subst this; subst h2; exact hx
      | false =>
        simp only [hb, cond_false] at h ⊢
        obtain ⟨h1, h2⟩ := look_keep t v e _ h
        exact ⟨h1, (List.mem_filter.1 h2).1⟩
    | false =>
      simp only [ha, cond_false] at h
      obtain ⟨h1, h2⟩ := look_keep t v e ks h
      refine ⟨?_, h2⟩
      simp only [look]
      cases hb : Nat.beq k t with
      | true =>
        have h3 := Nat.eq_of_beq_eq_true hb
        subst h3
        have : ks.any (Nat.beq k) = true := List.any_eq_true.2 ⟨k, h2, Nat.beq_refl k⟩
        rw [ha] at this; cases this
      | false => simpa using h1
theorem KnD.keep (h : KnD n ds a e) (ks : List Nat) : KnD n ds a (XC.keep ks e) := h.sub fun t v ht => (look_keep t v e ks ht).1
end

/-! ### What is told of a program's types -/
structure Tab where
  und : List (Nat × TypeDesc)
  inf : List (Nat × (Nat × Nat × Value))     -- size, bytes, zero
def find {α : Type} : List (Nat × α) → Nat → Option α
  | [], _ => none
  | (k, v) :: l, t => bif Nat.beq k t then some v else find l t
theorem find_mem {α : Type} {l : List (Nat × α)} {t : Nat} {x : α} : find l t = some x → (t, x) ∈ l := by
  induction l with
  | nil => simp [find]
  | cons p l ih =>
    obtain ⟨k, v⟩ := p
    simp only [find]
    cases hb : Nat.beq k t with
    | true =>
      have := Nat.eq_of_beq_eq_true hb
      subst this
      simp only [cond_true, Option.some.injEq]
      rintro rfl
      exact List.mem_cons_self
    | false => exact fun h => List.mem_cons_of_mem _ (ih h)
structure TabOK (P : Program) (T : Tab) : Prop where
  und : ∀ p ∈ T.und, P.underlying p.1 = some p.2
  inf : ∀ p ∈ T.inf, (P.info? p.1).map (fun i => (i.size, i.bytes, i.zero)) = some (p.2.1, p.2.2.1, some p.2.2.2)
section
variable {P : Program} {T : Tab} (ht : TabOK P T)
include ht
theorem TabOK.u {t : Nat} {d : TypeDesc} (h : find T.und t = some d) : P.underlying t = some d := ht.und _ (find_mem h)
theorem TabOK.i {t s b : Nat} {z : Value} (h : find T.inf t = some (s, b, z)) : ∃ i, P.info? t = some i ∧ i.size = s ∧ i.bytes = b ∧ i.zero = some z := by
  obtain ⟨i, hi, hz⟩ := Option.map_eq_some_iff.1 (ht.inf _ (find_mem h))
  simp only [Prod.mk.injEq] at hz
  exact ⟨i, hi, hz.1, hz.2.1, hz.2.2⟩
end

/-! ### The evaluator -/
def Conj : List Prop → Prop
  | [] => True
  | p :: l => p ∧ Conj l
theorem Conj.append {l m : List Prop} : Conj (l ++ m) → Conj l ∧ Conj m := by
  induction l with
  | nil => exact fun h => ⟨trivial, h⟩
  | cons p l ih => exact fun h => ⟨⟨h.1, (ih h.2).1⟩, (ih h.2).2⟩
def bt (s : ByteArray) (i : Int) : Int := if h : i.toNat < s.size then ((s[i.toNat]'h).toNat : Int) else 0

abbrev Res := Option (Value × List Prop)
/-- A load yields v. -/
def LoadIs (P : Program) (t : TypeId) (ad : Addr) (v : Value) (w : World) : Prop := (loadVar t ad).run P w = .ok v w
def pureV (v : Value) : Res := some (v, [])
def wr (k : IntKind) (n : Int) : Value := .int k (k.wrap n)
def binP (T : Tab) (op : BinOp) (t : Nat) : Value → Value → Res
  | .int k a, .int k' b => match op with
    | .shl => some (wr k (a * 2 ^ min b.toNat k.bits), [0 ≤ b])
    | .shr => some (.int k (a.fdiv (2 ^ min b.toNat k.bits)), [0 ≤ b])
    | .add => if k = k' then pureV (wr k (a + b)) else none
    | .sub => if k = k' then pureV (wr k (a - b)) else none
    | .mul => if k = k' then pureV (wr k (a * b)) else none
    | .quo => if k = k' then some (wr k (a.tdiv b), [b ≠ 0]) else none
    | .rem => if k = k' then some (.int k (a.tmod b), [b ≠ 0]) else none
    | .and => if k = k' then pureV (.int k (bits .and k a b)) else none
    | .or => if k = k' then pureV (.int k (bits .or k a b)) else none
    | .xor => if k = k' then pureV (.int k (bits .xor k a b)) else none
    | .andNot => if k = k' then pureV (.int k (bits .andNot k a b)) else none
    | .eql => if k = k' then pureV (.bool (a == b)) else none
    | .neq => if k = k' then pureV (.bool (a != b)) else none
    | .lss => if k = k' then pureV (.bool (decide (a < b))) else none
    | .leq => if k = k' then pureV (.bool (decide (a ≤ b))) else none
    | .gtr => if k = k' then pureV (.bool (decide (a > b))) else none
    | .geq => if k = k' then pureV (.bool (decide (a ≥ b))) else none
  | .string a, .string b => match op with
    | .add => some (.string (a ++ b), [((a.size + b.size : Nat) : Int) ≤ 9223372036854775807])
    | .eql => pureV (.bool (a.toList == b.toList))
    | .neq => pureV (.bool (!(a.toList == b.toList)))
    | .lss => pureV (.bool (Op.bytesLess a.toList b.toList))
    | _ => none
  | .bool a, .bool b => match op, find T.und t with
    | .eql, some .bool => pureV (.bool (a == b))
    | .neq, some .bool => pureV (.bool (!(a == b)))
    | _, _ => none
  | .pointer a, .pointer none => match op, find T.und t with
    | .eql, some (.pointer _) => pureV (.bool a.isNone)
    | .neq, some (.pointer _) => pureV (.bool (!a.isNone))
    | _, _ => none
  | .slice a _ _, .slice none _ _ => match op, find T.und t with
    | .eql, some (.slice _) => pureV (.bool a.isNone)
    | .neq, some (.slice _) => pureV (.bool (!a.isNone))
    | _, _ => none
  | _, _ => none
def unP (op : UnOp) : Value → Res
  | .int k n => match op with
    | .neg => pureV (wr k (0 - n))
    | .xor => pureV (.int k (bits .xor k (if k.signed then -1 else k.max) n))
    | _ => none
  | .bool b => match op with
    | .not => pureV (.bool (!b))
    | _ => none
  | _ => none
def convP (T : Tab) (s d : Nat) (v : Value) : Res :=
  match find T.und s, find T.und d, v with
  | some (.int _), some (.int k), .int _ n => pureV (wr k n)
  | some .string, some .string, .string x => pureV (.string x)
  | _, _, _ => none
def fieldP (T : Tab) (s f : Nat) : Option Field :=
  match find T.und s with
  | some (.struct fields) => fields[f]?
  | _ => none
def aggT (T : Tab) (t : Nat) : Option Bool :=
  match find T.und t with
  | some (.struct _) | some (.array _ _) => some true
  | some .invalid | none => none
  | some (.named _ _) => none
  | some _ => some false
def partP (T : Tab) (t : Nat) (cs : Array Value) (off : Nat) : Option Value :=
  match aggT T t with
  | some true => match find T.inf t with
    | some (s, _, _) => some (.agg (cs.extract off (off + s)))
    | none => none
  | some false => cs[off]?
  | none => none
def minI (k : IntKind) : Int → List Value → Option Int
  | x, [] => some x
  | x, .int _ y :: l => minI k (if y < x then y else x) l
  | _, _ => none
def maxI (k : IntKind) : Int → List Value → Option Int
  | x, [] => some x
  | x, .int _ y :: l => maxI k (if y > x then y else x) l
  | _, _ => none
def allSome {α : Type} : List (Option α) → Option (List α)
  | [] => some []
  | some v :: l => match allSome l with
    | some r => some (v :: r)
    | none => none
  | none :: _ => none
def builtinP (T : Tab) (b : Builtin) (ts : Array TypeId) (vs : List Value) : Res :=
  match b, vs with
  | .len, [.string s] => match (ts[0]?).bind (find T.und) with
    | some .string => pureV (.int .i64 s.size)
    | _ => none
  | .len, [.slice _ n _] => match (ts[0]?).bind (find T.und) with
    | some (.slice _) => pureV (.int .i64 n)
    | _ => none
  | .cap, [.slice _ _ c] => match (ts[0]?).bind (find T.und) with
    | some (.slice _) => pureV (.int .i64 c)
    | _ => none
  | .min, .int k x :: l => match minI k x l with
    | some r => pureV (.int k r)
    | none => none
  | .max, .int k x :: l => match maxI k x l with
    | some r => pureV (.int k r)
    | none => none
  | _, _ => none
/-- Bounds of a cut. -/
def cutP (len cap : Nat) (lo hi : Option Value) : Option (Nat × Nat × List Prop) :=
  match lo, hi with
  | none, none => some (0, len, [])
  | some (.int _ l), none => some (l.toNat, len, [0 ≤ l, l ≤ (len : Int)])
  | none, some (.int _ h) => some (0, h.toNat, [0 ≤ h, h ≤ (cap : Int)])
  | some (.int _ l), some (.int _ h) => some (l.toNat, h.toNat, [0 ≤ h, h ≤ (cap : Int), 0 ≤ l, l ≤ (h.toNat : Int)])
  | _, _ => none
def optV (ev : Operand → Option Value) : Option Operand → Option (Option Value)
  | none => some none
  | some x => (ev x).map some
def sliceP (T : Tab) (t : Nat) (v : Value) (lo hi : Option Value) : Res :=
  match find T.und t, v with
  | some .string, .string s => match cutP s.size s.size lo hi with
    | some (l, h, cs) => some (.string (s.extract l h), cs)
    | none => none
  | _, _ => none
def evalP (T : Tab) (ev : Operand → Option Value) : Op → Res
  | .move x | .assign x => match ev x with
    | some v => pureV v
    | none => none
  | .pick c x y => match ev c with
    | some (.bool true) => match ev x with
      | some v => pureV v
      | none => none
    | some (.bool false) => match ev y with
      | some v => pureV v
      | none => none
    | _ => none
  | .binOp op t x y _ => match y with
    | .const .nilIface => none
    | _ => match ev x, ev y with
      | some u, some v => binP T op t u v
      | _, _ => none
  | .unOp op _ x => match ev x with
    | some v => unP op v
    | none => none
  | .convert s d x => match ev x with
    | some v => convP T s d v
    | none => none
  | .extract x i => match ev x with
    | some (.tuple vs) => match vs[i]? with
      | some v => pureV v
      | none => none
    | _ => none
  | .nilCheck x => match ev x with
    | some (.pointer (some ad)) => pureV (.pointer (some ad))
    | _ => none
  | .field t x f => match ev x, fieldP T t f with
    | some (.agg cs), some fd => match partP T fd.type cs fd.offset with
      | some v => pureV v
      | none => none
    | _, _ => none
  | .fieldAddr t x f => match ev x, fieldP T t f with
    | some (.pointer (some ad)), some fd => match find T.inf fd.type with
      | some (s, _, _) => if s = 0 then none else pureV (.pointer (some (ad.add fd.offset)))
      | none => none
    | _, _ => none
  | .indexAddr t x i => match find T.und t, ev x, ev i with
    | some (.slice el), some (.slice (some ad) len _), some (.int _ j) => match find T.inf el with
      | some (s, _, _) => some (.pointer (some (ad.add (j.toNat * s))), [0 ≤ j ∧ j < (len : Int)])
      | none => none
    | some (.array len el), some (.pointer (some ad)), some (.int _ j) => match find T.inf el with
      | some (s, _, _) => some (.pointer (some (ad.add (j.toNat * s))), [0 ≤ j ∧ j < (len : Int)])
      | none => none
    | _, _, _ => none
  | .index t x i => match find T.und t, ev x, ev i with
    | some .string, some (.string s), some (.int _ j) => some (.int .u8 (bt s j), [0 ≤ j ∧ j < (s.size : Int)])
    | _, _, _ => none
  | .slice t x lo hi none => match ev x, optV ev lo, optV ev hi with
    | some v, some lo, some hi => sliceP T t v lo hi
    | _, _, _ => none
  | .build t parts => match find T.und t, find T.inf t, allSome (parts.toList.map fun p => ev p.2) with
    | some (.struct fields), some (_, _, z), some vs =>
      match allSome (fields.toList.map fun f => (find T.inf f.type).map fun x => (f.offset, x.1)) with
      | some ps => match Instr.fill (fun i => ps[i]?) z.cells ((parts.toList.map (·.1)).zip vs) with
        | some cells => pureV (.agg cells)
        | none => none
      | none => none
    | _, _, _ => none
  | .makeFunc fn first captured => match allSome (first.toList.map ev), allSome (captured.toList.map ev) with
    | some f, some c => pureV (.func fn f.toArray c.toArray)
    | _, _ => none
  | .call c => match c.callee, allSome (c.args.toList.map ev) with
    | .builtin b, some vs => builtinP T b c.argTypes vs
    | _, _ => none
  | _ => none
end Go.Proofs.XC

set_option linter.unusedSimpArgs false
set_option linter.unusedVariables false
namespace Go.Proofs.XC
open Go
section
variable {P : Program} {T : Tab} {w : World}

theorem allSome_map {ev : Operand → Option Value} {ρ : Operand → Value} (hev : ∀ x v, ev x = some v → ρ x = v) : ∀ (l : List Operand) (r : List Value), allSome (l.map ev) = some r → l.map ρ = r
  | [], r, h => by simp only [List.map_nil, allSome, Option.some.injEq] at h; subst h; rfl
  | x :: l, r, h => by
    simp only [List.map_cons] at h
    cases hx : ev x with
    | none => simp [hx, allSome] at h
    | some v =>
      simp only [hx, allSome] at h
      cases hl : allSome (l.map ev) with
      | none => simp [hl] at h
      | some q =>
        simp only [hl, Option.some.injEq] at h
        subst h
        simp [hev x v hx, allSome_map hev l q hl]

theorem run_underlying' {t : Nat} {d : TypeDesc} (h : P.underlying t = some d) : (Go.underlying t).run P w = .ok d w := by
  simp [Go.underlying, h]
theorem run_typeInfo' {t : Nat} {i : TypeInfo} (h : P.info? t = some i) : (Go.typeInfo t).run P w = .ok i w := by
  simp [Go.typeInfo, h]
theorem run_sizeOf' (ht : TabOK P T) {t s b : Nat} {z : Value} (h : find T.inf t = some (s, b, z)) : (Go.sizeOf t).run P w = .ok s w := by
  obtain ⟨i, hi, rfl, _, _⟩ := ht.i h
  simp [Go.sizeOf, run_typeInfo' hi]
theorem run_zeroValue' (ht : TabOK P T) {t s b : Nat} {z : Value} (h : find T.inf t = some (s, b, z)) : (Go.zeroValue t).run P w = .ok z w := by
  obtain ⟨i, hi, rfl, _, hz⟩ := ht.i h
  simp [Go.zeroValue, run_typeInfo' hi, hz]
theorem run_isAgg' (ht : TabOK P T) {t : Nat} {b : Bool} (h : aggT T t = some b) : (Go.isAgg t).run P w = .ok b w := by
  unfold aggT at h
  cases hu : find T.und t with
  | none => simp [hu] at h
  | some d =>
    have := run_underlying' (w := w) (ht.u hu)
    cases d <;> simp [hu] at h <;> subst h <;> simp [Go.isAgg, this]

theorem equal_of {t : Nat} {a b : Value} {r : Bool} (h : ∀ n, (Op.equalIn (n + 1) t a b).run P w = .ok r w) : (Op.equal t a b).run P w = .ok r w := h 9999
theorem run_eq_of {t : Nat} {x y : Operand} {a b : Value} {r : Bool} (hb : binOp .eql t a b = (do pure (.bool (← Op.equal t a b))) ∧ (eqGuard .eql t x y a b = pure ()) := by exact ⟨rfl, rfl⟩)
    (h : (Op.equal t a b).run P w = .ok r w) : (do eqGuard .eql t x y a b; binOp .eql t a b).run P w = .ok (.bool r) w := by
  rw [hb.1, hb.2]
  simp [h]
theorem run_neq_of {t : Nat} {x y : Operand} {a b : Value} {r : Bool} (hb : binOp .neq t a b = (do pure (.bool (!(← Op.equal t a b)))) ∧ (eqGuard .neq t x y a b = pure ()) := by exact ⟨rfl, rfl⟩)
    (h : (Op.equal t a b).run P w = .ok r w) : (do eqGuard .neq t x y a b; binOp .neq t a b).run P w = .ok (.bool (!r)) w := by
  rw [hb.1, hb.2]
  simp [h]

theorem eq_bool {t : Nat} {a b : Bool} (hr : P.underlying t = some .bool) : (Op.equal t (.bool a) (.bool b)).run P w = .ok (a == b) w := by
  have hr' := run_underlying' (w := w) hr
  refine equal_of fun n => ?_
  simp [Op.equalIn, hr']
theorem eq_ptr {t e : Nat} {a : Option Addr} (hr : P.underlying t = some (.pointer e)) : (Op.equal t (.pointer a) (.pointer none)).run P w = .ok a.isNone w := by
  have hr' := run_underlying' (w := w) hr
  refine equal_of fun n => ?_
  cases a <;> simp [Op.equalIn, hr']
theorem eq_slice {t e l c l2 c2 : Nat} {a : Option Addr} (hr : P.underlying t = some (.slice e)) : (Op.equal t (.slice a l c) (.slice none l2 c2)).run P w = .ok a.isNone w := by
  have hr' := run_underlying' (w := w) hr
  refine equal_of fun n => ?_
  cases a <;> simp [Op.equalIn, hr']

theorem binP_sound (ht : TabOK P T) {op : BinOp} {t : Nat} {x y : Operand} {a b v : Value} {cs : List Prop} (h : binP T op t a b = some (v, cs)) (hc : Conj cs) :
    (do eqGuard op t x y a b; binOp op t a b).run P w = .ok v w := by
  cases a with
  | int k a =>
    cases b <;> try (simp [binP] at h; done)
    rename_i k' b
    cases op <;> simp only [binP] at h
    case shl =>
      simp only [Option.some.injEq, Prod.mk.injEq] at h
      obtain ⟨rfl, rfl⟩ := h
      have : ¬ b < 0 := by have := hc.1; omega
      simp [eqGuard, binOp, Op.shift, this, wr]
    case shr =>
      simp only [Option.some.injEq, Prod.mk.injEq] at h
      obtain ⟨rfl, rfl⟩ := h
      have : ¬ b < 0 := by have := hc.1; omega
      simp [eqGuard, binOp, Op.shift, this, wr]
    all_goals
      by_cases hk : k = k'
      · subst hk
        simp only [if_true, pureV, Option.some.injEq, Prod.mk.injEq] at h
        obtain ⟨rfl, rfl⟩ := h
        first
        | (simp [eqGuard, binOp, Op.intArith, Op.intCmp, wr]; done)
        | (have hb : ¬ b = 0 := hc.1
           simp [eqGuard, binOp, Op.intDiv, hb, wr]; done)
        | (simp only [eqGuard, binOp]; simp [intBits_and, intBits_or, intBits_xor, intBits_andNot]; done)
      · simp [hk] at h
  | string a =>
    cases b <;> try (simp [binP] at h; done)
    rename_i b
    cases op <;> simp only [binP, pureV, reduceCtorEq, Option.some.injEq, Prod.mk.injEq] at h
    case add =>
      obtain ⟨rfl, rfl⟩ := h
      have h1 : ¬ ((a.size + b.size : Nat) : Int) > IntKind.i64.max := by
        have := hc.1
        have e : IntKind.i64.max = 9223372036854775807 := by rfl
        rw [e]; omega
      simp [eqGuard, binOp, Op.stringOp]
      simpa using h1
    all_goals
      obtain ⟨rfl, rfl⟩ := h
      simp [eqGuard, binOp, Op.stringOp]
  | bool a =>
    cases b <;> try (simp [binP] at h; done)
    rename_i b
    cases hu : find T.und t with
    | none => cases op <;> simp [binP, hu] at h
    | some d =>
      cases op <;> cases d <;> simp [binP, hu, pureV] at h
      all_goals obtain ⟨rfl, rfl⟩ := h
      · exact run_eq_of ⟨rfl, rfl⟩ (eq_bool (ht.u hu))
      · exact run_neq_of ⟨rfl, rfl⟩ (eq_bool (ht.u hu))
  | pointer a =>
    cases b <;> try (simp [binP] at h; done)
    rename_i b
    cases b with
    | some b => simp [binP] at h
    | none =>
      cases hu : find T.und t with
      | none => cases op <;> simp [binP, hu] at h
      | some d =>
        cases op <;> cases d <;> simp [binP, hu, pureV] at h
        all_goals obtain ⟨rfl, rfl⟩ := h
        · exact run_eq_of ⟨rfl, rfl⟩ (eq_ptr (ht.u hu))
        · rw [show a.isSome = !a.isNone by cases a <;> rfl]
          exact run_neq_of ⟨rfl, rfl⟩ (eq_ptr (ht.u hu))
  | slice a l c =>
    cases b <;> try (simp [binP] at h; done)
    rename_i b l' c'
    cases b with
    | some b => simp [binP] at h
    | none =>
      cases hu : find T.und t with
      | none => cases op <;> simp [binP, hu] at h
      | some d =>
        cases op <;> cases d <;> simp [binP, hu, pureV] at h
        all_goals obtain ⟨rfl, rfl⟩ := h
        · exact run_eq_of ⟨rfl, rfl⟩ (eq_slice (ht.u hu))
        · rw [show a.isSome = !a.isNone by cases a <;> rfl]
          exact run_neq_of ⟨rfl, rfl⟩ (eq_slice (ht.u hu))
  | _ => cases b <;> simp [binP] at h

theorem run_unary {op : UnOp} {x v : Value} {cs : List Prop} (h : unP op x = some (v, cs)) : (Op.unary op x).run P w = .ok v w := by
  cases x <;> cases op <;> simp [unP, pureV] at h
  all_goals
    obtain ⟨rfl, rfl⟩ := h
    first
    | (simp [Op.unary, Op.intArith, wr]; done)
    | (simp only [Op.unary]; simp [intBits_xor]; done)
    | simp [Op.unary]

theorem run_convP (ht : TabOK P T) {s d : Nat} {x v : Value} {cs : List Prop} (h : convP T s d x = some (v, cs)) : (convert s d x).run P w = .ok v w := by
  unfold convP at h
  cases hs : find T.und s with
  | none => simp [hs] at h
  | some ds =>
    cases hd : find T.und d with
    | none => simp [hs, hd] at h
    | some dd =>
      have rs := run_underlying' (w := w) (ht.u hs)
      have rd := run_underlying' (w := w) (ht.u hd)
      cases ds <;> cases dd <;> cases x <;> simp [hs, hd, pureV] at h
      all_goals
        obtain ⟨rfl, rfl⟩ := h
        simp [convert, rs, rd, Conv.intToInt, wr]

theorem run_partP (ht : TabOK P T) {t : Nat} {c : Array Value} {off : Nat} {v : Value} (h : partP T t c off = some v) : (part t c off).run P w = .ok v w := by
  unfold partP at h
  cases ha : aggT T t with
  | none => simp [ha] at h
  | some b =>
    have hr := run_isAgg' (w := w) ht ha
    cases b with
    | true =>
      simp only [ha] at h
      cases hi : find T.inf t with
      | none => simp [hi] at h
      | some p =>
        obtain ⟨s, bb, z⟩ := p
        simp only [hi, Option.some.injEq] at h
        subst h
        simp [part, hr, run_sizeOf' ht hi]
    | false =>
      simp only [ha] at h
      simp [part, hr, h]

theorem minI_run {k : IntKind} : ∀ (l : List Value) (x r : Int), minI k x l = some r → (l.foldlM Builtin.min2 (.int k x)).run P w = .ok (.int k r) w
  | [], x, r, h => by simp only [minI, Option.some.injEq] at h; subst h; simp
  | .int _ y :: l, x, r, h => by
    simp only [minI] at h
    simp only [List.foldlM_cons, Builtin.min2]
    rw [pure_bind]
    exact minI_run l _ r h
  | .bool _ :: _, _, _, h | .float _ _ :: _, _, _, h | .complex _ _ _ :: _, _, _, h | .string _ :: _, _, _, h | .pointer _ :: _, _, _, h | .slice _ _ _ :: _, _, _, h | .map _ :: _, _, _, h | .chan _ :: _, _, _, h
  | .func _ _ _ :: _, _, _, h | .nilFunc :: _, _, _, h | .iface _ _ :: _, _, _, h | .nilIface :: _, _, _, h | .agg _ :: _, _, _, h | .tuple _ :: _, _, _, h => by simp [minI] at h
theorem maxI_run {k : IntKind} : ∀ (l : List Value) (x r : Int), maxI k x l = some r → (l.foldlM Builtin.max2 (.int k x)).run P w = .ok (.int k r) w
  | [], x, r, h => by simp only [maxI, Option.some.injEq] at h; subst h; simp
  | .int _ y :: l, x, r, h => by
    simp only [maxI] at h
    simp only [List.foldlM_cons, Builtin.max2]
    rw [pure_bind]
    exact maxI_run l _ r h
  | .bool _ :: _, _, _, h | .float _ _ :: _, _, _, h | .complex _ _ _ :: _, _, _, h | .string _ :: _, _, _, h | .pointer _ :: _, _, _, h | .slice _ _ _ :: _, _, _, h | .map _ :: _, _, _, h | .chan _ :: _, _, _, h
  | .func _ _ _ :: _, _, _, h | .nilFunc :: _, _, _, h | .iface _ _ :: _, _, _, h | .nilIface :: _, _, _, h | .agg _ :: _, _, _, h | .tuple _ :: _, _, _, h => by simp [maxI] at h

theorem run_builtinP (ht : TabOK P T) {b : Builtin} {ts : Array TypeId} {ty : TypeId} {cn : Array Bool} {vs : List Value} {v : Value} {cs : List Prop} (h : builtinP T b ts vs = some (v, cs)) :
    (builtin b ts ty cn vs.toArray).run P w = .ok (.value v) w := by
  have key : ∀ {t : Nat} {d : TypeDesc}, (ts[0]?).bind (find T.und) = some d → ∃ t, ts[0]? = some t ∧ P.underlying t = some d := by
    intro t d hd
    obtain ⟨t, h1, h2⟩ := Option.bind_eq_some_iff.1 hd
    exact ⟨t, h1, ht.u h2⟩
  unfold builtinP at h
  split at h
  · rename_i s
    split at h <;> simp [pureV] at h
    rename_i hd
    obtain ⟨rfl, rfl⟩ := h
    obtain ⟨t, h1, h2⟩ := key (t := 0) hd
    have hu := run_underlying' (w := w) h2
    simp [builtin, Builtin.len_, h1, hu, goInt]
  · rename_i a n c
    split at h <;> simp [pureV] at h
    rename_i e hd
    obtain ⟨rfl, rfl⟩ := h
    obtain ⟨t, h1, h2⟩ := key (t := 0) hd
    have hu := run_underlying' (w := w) h2
    simp [builtin, Builtin.len_, h1, hu, goInt]
  · rename_i a n c
    split at h <;> simp [pureV] at h
    rename_i e hd
    obtain ⟨rfl, rfl⟩ := h
    obtain ⟨t, h1, h2⟩ := key (t := 0) hd
    have hu := run_underlying' (w := w) h2
    simp [builtin, Builtin.cap_, h1, hu, goInt]
  · rename_i k x l
    split at h <;> simp [pureV] at h
    rename_i r hr
    obtain ⟨rfl, rfl⟩ := h
    simp [builtin, Builtin.min_, minI_run l x r hr]
  · rename_i k x l
    split at h <;> simp [pureV] at h
    rename_i r hr
    obtain ⟨rfl, rfl⟩ := h
    simp [builtin, Builtin.max_, maxI_run l x r hr]
  · simp at h
end
end Go.Proofs.XC

set_option linter.unusedSimpArgs false
set_option linter.unusedVariables false
namespace Go.Proofs.XC
open Go
section
variable {P : Program} {T : Tab} {w : World}

theorem run_bound {k : IntKind} {i : Int} {y : Nat} {c : BoundsCode} (h0 : 0 ≤ i) (h1 : i ≤ (y : Int)) : (Instr.sliceBound (.int k i) y c).run P w = .ok i.toNat w := by
  simp [Instr.sliceBound, asIntOf, h0, h1]

theorem run_cutP {isS : Bool} {len cap : Nat} {lo hi : Option Value} {l h : Nat} {cs : List Prop} (hc : cutP len cap lo hi = some (l, h, cs)) (hp : Conj cs) :
    (Instr.sliceBounds isS len cap lo hi none).run P w = .ok (l, h, cap) w := by
  unfold cutP at hc
  split at hc <;> simp at hc
  · obtain ⟨rfl, rfl, rfl⟩ := hc
    simp [Instr.sliceBounds]
  · obtain ⟨rfl, rfl, rfl⟩ := hc
    obtain ⟨h0, h1, _⟩ := hp
    simp [Instr.sliceBounds, run_bound h0 h1]
  · obtain ⟨rfl, rfl, rfl⟩ := hc
    obtain ⟨h0, h1, _⟩ := hp
    simp [Instr.sliceBounds, run_bound h0 h1]
  · obtain ⟨rfl, rfl, rfl⟩ := hc
    obtain ⟨h0, h1, h2, h3, _⟩ := hp
    have h4 := fun (c : BoundsCode) (k : IntKind) => run_bound (P := P) (w := w) (k := k) (c := c) h2 (show _ ≤ ((Int.toNat _ : Nat) : Int) by rw [Int.toNat_of_nonneg h0]; omega)
    simp [Instr.sliceBounds, run_bound h0 h1, h4]

theorem run_sliceP (ht : TabOK P T) {t : Nat} {x : Value} {lo hi : Option Value} {v : Value} {cs : List Prop} (h : sliceP T t x lo hi = some (v, cs)) (hp : Conj cs) :
    (Instr.sliceAt t x lo hi none).run P w = .ok v w := by
  unfold sliceP at h
  split at h
  · rename_i s hu
    have hr := run_underlying' (w := w) (ht.u hu)
    split at h <;> simp at h
    rename_i l hh cs' hc
    obtain ⟨rfl, rfl⟩ := h
    simp [Instr.sliceAt, Instr.slice, hr, run_cutP hc hp]
  · simp at h

theorem run_fieldP (ht : TabOK P T) {t f : Nat} {fd : Field} (h : fieldP T t f = some fd) : ∃ fs : Array Field, (Go.underlying t).run P w = .ok (.struct fs) w ∧ fs[f]? = some fd := by
  unfold fieldP at h
  split at h
  · rename_i fs hu
    exact ⟨fs, run_underlying' (ht.u hu), h⟩
  · simp at h

theorem bt_index {s : ByteArray} {j : Int} (h : 0 ≤ j ∧ j < (s.size : Int)) : ∃ b : UInt8, s[j.toNat]? = some b ∧ (b.toNat : Int) = bt s j := by
  have hl : j.toNat < s.size := by omega
  exact ⟨s[j.toNat], getElem?_pos s j.toNat hl, by simp [bt, hl]⟩

theorem run_mapM_places (ht : TabOK P T) : ∀ (fs : List Field) (ps : List (Nat × Nat)), allSome (fs.map fun f => (find T.inf f.type).map fun x => (f.offset, x.1)) = some ps →
    (fs.mapM (m := Sem) fun f => do pure (f.offset, ← Go.sizeOf f.type)).run P w = .ok ps w
  | [], ps, h => by simp only [List.map_nil, allSome, Option.some.injEq] at h; subst h; simp
  | f :: fs, ps, h => by
    simp only [List.map_cons] at h
    cases hf : find T.inf f.type with
    | none => simp [hf, allSome] at h
    | some p =>
      obtain ⟨s, b, z⟩ := p
      simp only [hf, Option.map_some, allSome] at h
      cases hl : allSome (fs.map fun f => (find T.inf f.type).map fun x => (f.offset, x.1)) with
      | none => simp [hl] at h
      | some q =>
        simp only [hl, Option.some.injEq] at h
        subst h
        have h1 := run_sizeOf' (w := w) ht hf
        have h2 := run_mapM_places ht fs q hl
        simp only [List.mapM_cons, Sem.run_bind, h1, Result.andThen_ok, Sem.run_pure, h2]

theorem evalP_sound (ht : TabOK P T) {ev : Operand → Option Value} {ρ : Operand → Value} (hev : ∀ x v, ev x = some v → ρ x = v) {o : Oper} {v : Value} {cs : List Prop}
    (h : evalP T ev o.op = some (v, cs)) (hp : Conj cs) : (execOp ρ o).run P w = .ok (.value v) w := by
  obtain ⟨dst, op, ty, pos, af, gd⟩ := o
  simp only at h
  unfold evalP at h
  split at h
  · rename_i x
    split at h <;> simp [pureV] at h
    rename_i u hu
    obtain ⟨rfl, rfl⟩ := h
    simp [execOp, hev _ _ hu]
  · rename_i x
    split at h <;> simp [pureV] at h
    rename_i u hu
    obtain ⟨rfl, rfl⟩ := h
    simp [execOp, hev _ _ hu]
  · rename_i c x y
    split at h
    · rename_i hc
      split at h <;> simp [pureV] at h
      rename_i u hu
      obtain ⟨rfl, rfl⟩ := h
      simp [execOp, hev _ _ hc, hev _ _ hu, asBool]
    · rename_i hc
      split at h <;> simp [pureV] at h
      rename_i u hu
      obtain ⟨rfl, rfl⟩ := h
      simp [execOp, hev _ _ hc, hev _ _ hu, asBool]
    · simp at h
  · rename_i op t x y yt
    split at h
    · simp at h
    · split at h
      · rename_i a b ha hb
        have := binP_sound (w := w) (x := x) (y := y) ht h hp
        simp only [execOp, hev _ _ ha, hev _ _ hb]
        simp only [Sem.run_bind] at this ⊢
        simp [this]
      · simp at h
  · rename_i op t x
    split at h
    · rename_i a ha
      simp [execOp, hev _ _ ha, run_unary h]
    · simp at h
  · rename_i s d x
    split at h
    · rename_i a ha
      simp [execOp, hev _ _ ha, run_convP ht h]
    · simp at h
  · rename_i x i
    split at h
    · rename_i vs hv
      split at h <;> simp [pureV] at h
      rename_i u hu
      obtain ⟨rfl, rfl⟩ := h
      simp [execOp, hev _ _ hv, Instr.extract, hu]
    · simp at h
  · rename_i x
    split at h <;> simp [pureV] at h
    rename_i ad hu
    obtain ⟨rfl, rfl⟩ := h
    simp [execOp, hev _ _ hu]
  · rename_i t x f
    split at h
    · rename_i c fd hx hf
      split at h <;> simp [pureV] at h
      rename_i u hu
      obtain ⟨rfl, rfl⟩ := h
      obtain ⟨fs, h1, h2⟩ := run_fieldP (w := w) ht hf
      simp [execOp, hev _ _ hx, Instr.field, h1, h2, asAgg, run_partP ht hu]
    · simp at h
  · rename_i t x f
    split at h
    · rename_i ad fd hx hf
      split at h
      · rename_i s bb zz hi
        split at h <;> simp [pureV] at h
        rename_i hs
        obtain ⟨rfl, rfl⟩ := h
        obtain ⟨fs, h1, h2⟩ := run_fieldP (w := w) ht hf
        simp [execOp, hev _ _ hx, Instr.fieldAt, h1, h2, Instr.sureAddr, fieldPlace, run_sizeOf' ht hi, hs]
      · simp at h
    · simp at h
  · rename_i t x i
    split at h
    · rename_i el ad len c k j hu hx hj
      split at h <;> simp at h
      rename_i s bb zz hi
      obtain ⟨rfl, rfl⟩ := h
      have hr := run_underlying' (w := w) (ht.u hu)
      simp [execOp, hev _ _ hx, hev _ _ hj, Instr.indexAt, asIntOf, hr, run_sizeOf' ht hi, hp.1]
    · rename_i len el ad k j hu hx hj
      split at h <;> simp at h
      rename_i s bb zz hi
      obtain ⟨rfl, rfl⟩ := h
      have hr := run_underlying' (w := w) (ht.u hu)
      simp [execOp, hev _ _ hx, hev _ _ hj, Instr.indexAt, asIntOf, hr, run_sizeOf' ht hi, hp.1, Instr.sureAddr]
    · simp at h
  · rename_i t x i
    split at h
    · rename_i s k j hu hx hj
      simp only [Option.some.injEq, Prod.mk.injEq] at h
      obtain ⟨rfl, rfl⟩ := h
      have hr := run_underlying' (w := w) (ht.u hu)
      obtain ⟨b, hb, hbt⟩ := bt_index hp.1
      simp [execOp, hev _ _ hx, hev _ _ hj, Instr.index, asIntOf, hr, hp.1.1, hb, hbt]
    · simp at h
  · rename_i t x lo hi
    split at h
    · rename_i u lo' hi' hx hlo hhi
      have e : ∀ (y : Option Operand) (r : Option Value), optV ev y = some r → y.map ρ = r := by
        intro y r hy
        cases y with
        | none => simp only [optV, Option.some.injEq] at hy; subst hy; rfl
        | some y =>
          simp only [optV, Option.map_eq_some_iff] at hy
          obtain ⟨z, hz, rfl⟩ := hy
          simp [hev _ _ hz]
      simp [execOp, hev _ _ hx, e _ _ hlo, e _ _ hhi, run_sliceP ht h hp]
    · simp at h
  · rename_i t parts
    split at h
    · rename_i fs s b z vs hu hz hv
      split at h
      · rename_i ps hps
        split at h <;> simp [pureV] at h
        rename_i cells hfill
        obtain ⟨rfl, rfl⟩ := h
        have hr := run_underlying' (w := w) (ht.u hu)
        have hm := run_mapM_places (w := w) ht fs.toList ps hps
        have hvs : ∀ (l : List (Nat × Operand)) (r : List Value), allSome (l.map fun p => ev p.2) = some r → l.map (fun x => (x.1, ρ x.2)) = (l.map (·.1)).zip r := by
          intro l
          induction l with
          | nil => intro r hr; simp
          | cons p l ih =>
            intro r hr
            simp only [List.map_cons] at hr
            cases hp2 : ev p.2 with
            | none => simp [hp2, allSome] at hr
            | some u =>
              simp only [hp2, allSome] at hr
              cases hl : allSome (l.map fun p => ev p.2) with
              | none => simp [hl] at hr
              | some q =>
                simp only [hl, Option.some.injEq] at hr
                subst hr
                simp [hev _ _ hp2, ih q hl]
        simp only [execOp, Instr.build, Sem.run_bind, run_zeroValue' ht hz, Result.andThen_ok, hr]
        simp only [Array.mapM_eq_mapM_toList, Sem.run_map, hm, Result.andThen_ok, Array.toList_map, hvs _ _ hv, List.getElem?_toArray, hfill]
        simp [hfill]
      · simp at h
    · simp at h
  · rename_i fn first cap
    split at h <;> simp [pureV] at h
    rename_i f c hf hc
    obtain ⟨rfl, rfl⟩ := h
    have h1 := allSome_map hev _ _ hf
    have h2 := allSome_map hev _ _ hc
    have h3 : first.map ρ = f.toArray := Array.toList_inj.1 (by simpa using h1)
    have h4 : cap.map ρ = c.toArray := Array.toList_inj.1 (by simpa using h2)
    simp [execOp, Instr.makeFunc, h3, h4]
  · rename_i c
    split at h
    · rename_i b vs hcal hv
      have h1 := allSome_map hev _ _ hv
      have h2 : c.args.map ρ = vs.toArray := Array.toList_inj.1 (by simpa using h1)
      simp only [execOp, resolve, hcal, invoke, h2, pure_bind]
      exact run_builtinP ht h
    · simp at h
  · simp at h
end
end Go.Proofs.XC

set_option linter.unusedSimpArgs false
set_option linter.unusedVariables false
namespace Go.Proofs.XC
open Go

/-- No fence; within a round of loop l, where ρ is some l. -/
def WF (ρ : Option Nat) : Fence := { Fence.wide with round := ρ }
theorem wf_calls {ρ : Option Nat} {m : Nat} {P : Program} {f : FuncId} {args : Array Value} {w : World} {R : Ending → World → Prop} (h : Calls P f args w R) : CallsIn (WF ρ) m P f args w R :=
  (callsIn_wide (n := m)).2 h
theorem defer_not {P : Program} {w w' : World} {ev : Operand → Value} {o : Oper} {c : Call} {x : Next} (hc : o.op = .defer c) (h : (execOp ev o).run P w = .ok x w') : ∃ d, x = .defer d := by
  simp only [execOp, hc, Sem.run_bind] at h
  cases hr : (resolve ev c o.type).run P w with
  | ok d w1 =>
    rw [hr] at h
    simp only [Result.andThen_ok, Sem.run_pure] at h
    injection h with h _
    exact ⟨d, h.symm⟩
  | halt e w1 => rw [hr] at h; cases h
theorem wf_res {ρ : Option Nat} {P : Program} {w w' : World} {ev : Operand → Value} {o : Oper} {x : Next} (hx : ∀ d, x ≠ .defer d) (h : (execOp ev o).run P w = .ok x w') : (o.semAt ρ ev).run P w = .ok x w' := by
  rw [Oper.semAt_eq ρ ev o (fun c hc => by obtain ⟨d, hd⟩ := defer_not hc h; exact hx d hd)]; exact h
theorem wf_value {ρ : Option Nat} {P : Program} {w w' : World} {a : Act} {o : Oper} {v : Value} {K : Act → World → Prop} {Q : Exit → Act → World → Prop} (h : (execOp a.eval o).run P w = .ok (.value v) w') (hK : K (a.put o.dst v) w') : o.wpIn (WF ρ) 0 P a w K Q :=
  ⟨fun _ _ => trivial, by
    have e : (o.semAt (WF ρ).round a.eval).run P w = .ok (.value v) w' := wf_res (fun d hd => by cases hd) h
    rw [e]; exact hK⟩
theorem wf_skip {ρ : Option Nat} {P : Program} {w w' : World} {a : Act} {o : Oper} {K : Act → World → Prop} {Q : Exit → Act → World → Prop} (h : (execOp a.eval o).run P w = .ok .skip w') (hK : K (a.put o.dst undef) w') : o.wpIn (WF ρ) 0 P a w K Q :=
  ⟨fun _ _ => trivial, by
    have e : (o.semAt (WF ρ).round a.eval).run P w = .ok .skip w' := wf_res (fun d hd => by cases hd) h
    rw [e]; exact hK⟩
theorem wf_enter {ρ : Option Nat} {P : Program} {w w' : World} {a : Act} {o : Oper} {f : FuncId} {args : Array Value} {R : Ending → World → Prop} {K : Act → World → Prop} {Q : Exit → Act → World → Prop} (h : (execOp a.eval o).run P w = .ok (.enter f args) w') (hc : Calls P f args w' R) (hK : ∀ e w2, R e w2 → ∃ v, e = .returned v ∧ K (a.put o.dst v) w2) : o.wpIn (WF ρ) 0 P a w K Q :=
  ⟨fun _ _ => trivial, by
    have e : (o.semAt (WF ρ).round a.eval).run P w = .ok (.enter f args) w' := wf_res (fun d hd => by cases hd) h
    rw [e, Oper.uponIn_enter]
    refine ⟨fun hd => (by cases hd), CallsIn.mono (wf_calls hc) fun en w2 hr => ?_⟩
    obtain ⟨v, rfl, hk⟩ := hK en w2 hr
    exact hk⟩
/-! ### Runs of operations that leave memory alone; what loads yield is handed in -/
abbrev Cond := World → Prop
def ConjW (w : World) : List Cond → Prop
  | [] => True
  | c :: l => c w ∧ ConjW w l
theorem ConjW.append {w : World} {l m : List Cond} : ConjW w (l ++ m) → ConjW w l ∧ ConjW w m := by
  induction l with
  | nil => exact fun h => ⟨trivial, h⟩
  | cons p l ih => exact fun h => ⟨⟨h.1, (ih h.2).1⟩, (ih h.2).2⟩
theorem ConjW.lift {w : World} : ∀ {l : List Prop}, ConjW w (l.map fun p => fun _ => p) → Conj l
  | [], _ => trivial
  | _ :: _, h => ⟨h.1, ConjW.lift h.2⟩

def guardP (ops : List Oper) (e : Env) (o : Oper) : Option Bool :=
  match o.guard with
  | none => some true
  | some (j, want) => match ops[j]? with
    | some oj => match oj.dst with
      | some d => match look e d with
        | some (.bool b) => some (b == want)
        | some (.tuple _) => some false
        | _ => none
      | none => none
    | none => none

/-- Whatever is asked of memory: an operation yields v, its operands being as they are. -/
def AskIs (P : Program) (e : Env) (o : Oper) (v : Value) (w : World) : Prop := ∀ ρ : Operand → Value, (∀ x u, evo e x = some u → ρ x = u) → (execOp ρ o).run P w = .ok (.value v) w
/-- One quiet operation: its value, what is asked, the loads' values that are left. -/
def quietP (P : Program) (T : Tab) (e : Env) (o : Oper) (lv : List Value) : Option (Value × List Cond × List Value) :=
  match o.op with
  | .load t x => match evo e x, lv with
    | some (.pointer (some ad)), v :: lv' => some (v, [LoadIs P t ad v], lv')
    | _, _ => none
  | op => match evalP T (evo e) op with
    | some (v, cs) => some (v, cs.map fun p => fun _ => p, lv)
    | none => match lv with
      | v :: lv' => some (v, [AskIs P e o v], lv')
      | [] => none

def putE (n : Nat) (d : Option Tmp) (v : Value) (e : Env) : Option Env :=
  match d with
  | some d => bif Nat.blt d n then some ((d, v) :: e) else none
  | none => some e

def runP (P : Program) (T : Tab) (n : Nat) (ops : List Oper) : Nat → List Oper → Env → List Value → List Cond → Option (Env × List Cond × List Oper)
  | 0, l, e, _, cs => some (e, cs, l)
  | _ + 1, [], _, _, _ => none
  | k + 1, o :: l, e, lv, cs => match guardP ops e o with
    | some true => match quietP P T e o lv with
      | some (v, c, lv') => match putE n o.dst v e with
        | some e' => runP P T n ops k l e' lv' (cs ++ c)
        | none => none
      | none => none
    | some false => match putE n o.dst undef e with
      | some e' => runP P T n ops k l e' lv cs
      | none => none
    | none => none

def pick (e : Env) : List Nat → Option Env
  | [] => some []
  | k :: ks => match look e k, pick e ks with
    | some v, some r => some ((k, v) :: r)
    | _, _ => none
theorem pick_sub {e : Env} : ∀ {ks : List Nat} {r : Env}, pick e ks = some r → ∀ t v, look r t = some v → look e t = some v
  | [], r, h, t, v, hv => by simp only [pick, Option.some.injEq] at h; subst h; simp [look] at hv
  | k :: ks, r, h, t, v, hv => by
    simp only [pick] at h
    split at h <;> simp at h
    rename_i u q hu hq
    subst h
    simp only [look] at hv
    cases hb : Nat.beq k t with
    | true =>
      have := Nat.eq_of_beq_eq_true hb
      subst this
      simp only [hb, cond_true, Option.some.injEq] at hv
      subst hv; exact hu
    | false =>
      simp only [hb, cond_false] at hv
      exact pick_sub hq t v hv
def runK (P : Program) (T : Tab) (n : Nat) (ops : List Oper) (k : Nat) (l : List Oper) (e : Env) (lv : List Value) (ks : List Nat) : Option (Env × List Cond × List Oper) :=
  match runP P T n ops k l e lv [] with
  | some (e', cs, l') => match pick e' ks with
    | some r => some (r, cs, l')
    | none => none
  | none => none

section
variable {ρ : Option Nat} {ds : List Deferred} {P : Program} {T : Tab} {n : Nat} {a : Act} {e : Env} {w : World} {ops : List Oper} {Q : Exit → Act → World → Prop}

theorem KnD.putE (h : KnD n ds a e) {d : Option Tmp} {v : Value} {e' : Env} (hp : XC.putE n d v e = some e') : KnD n ds (a.put d v) e' := by
  cases d with
  | none => simp only [XC.putE, Option.some.injEq] at hp; subst hp; exact h
  | some d =>
    simp only [XC.putE] at hp
    cases hb : Nat.blt d n with
    | true => simp only [hb, cond_true, Option.some.injEq] at hp; subst hp; exact h.put d v hb
    | false => simp [hb] at hp
theorem guardP_sound (h : KnD n ds a e) {o : Oper} {b : Bool} (hg : guardP ops e o = some b) : Region.wanted o (yielded ops.toArray a.tmps) = b := by
  unfold guardP at hg
  unfold Region.wanted
  split at hg
  · rename_i ho
    simp only [Option.some.injEq] at hg
    subst hg
    simp [ho]
  · rename_i j want ho
    split at hg <;> try (simp at hg; done)
    rename_i oj hj
    split at hg <;> try (simp at hg; done)
    rename_i d hd
    split at hg <;> simp at hg
    · rename_i bb hl
      subst hg
      have hy : yielded ops.toArray a.tmps j = some bb := by
        unfold yielded
        simp [hj, hd, h.at_ _ _ hl]
      simp only [ho, hy]
      cases bb <;> cases want <;> rfl
    · rename_i vs hl
      subst hg
      have hy : yielded ops.toArray a.tmps j = none := by
        unfold yielded
        simp [hj, hd, h.at_ _ _ hl]
      simp [ho, hy]
theorem quietP_sound (ht : TabOK P T) (h : KnD n ds a e) {o : Oper} {lv lv' : List Value} {v : Value} {cs : List Cond} (hq : quietP P T e o lv = some (v, cs, lv')) (hc : ConjW w cs) :
    (execOp a.eval o).run P w = .ok (.value v) w := by
  unfold quietP at hq
  split at hq
  · rename_i t x ho
    split at hq <;> simp at hq
    rename_i ad u lv2 hx
    obtain ⟨rfl, rfl, rfl⟩ := hq
    have := hc.1
    unfold LoadIs at this
    simp [execOp, ho, Instr.loadAt, h.ev hx, Instr.sureAddr, this]
  · split at hq
    · simp only [Option.some.injEq, Prod.mk.injEq] at hq
      rename_i u c he
      obtain ⟨rfl, rfl, rfl⟩ := hq
      exact evalP_sound ht (fun x v hv => h.ev hv) he (ConjW.lift hc)
    · split at hq <;> simp at hq
      obtain ⟨rfl, rfl, rfl⟩ := hq
      exact hc.1 a.eval (fun x u hx => h.ev hx)
theorem wpl_quiet {o : Oper} {rest : List Oper} {v : Value} (hw : Region.wanted o (yielded ops.toArray a.tmps) = true) (hr : (execOp a.eval o).run P w = .ok (.value v) w)
    (h : wpListIn (WF ρ) 0 P ops.toArray Q rest (a.put o.dst v) w) : wpListIn (WF ρ) 0 P ops.toArray Q (o :: rest) a w := by
  unfold wpListIn
  rw [if_pos hw]
  exact wf_value hr h
theorem wpl_run (ht : TabOK P T) : ∀ (k : Nat) (l : List Oper) (a : Act) (e : Env) (lv : List Value) (cs0 : List Cond) (e' : Env) (cs : List Cond) (l' : List Oper), KnD n ds a e →
    runP P T n ops k l e lv cs0 = some (e', cs, l') → (∃ cs1, cs = cs0 ++ cs1 ∧ (ConjW w cs1 → (∀ a', KnD n ds a' e' → wpListIn (WF ρ) 0 P ops.toArray Q l' a' w) → wpListIn (WF ρ) 0 P ops.toArray Q l a w))
  | 0, l, a, e, lv, cs0, e', cs, l', hk, hr => by
    simp only [runP, Option.some.injEq, Prod.mk.injEq] at hr
    obtain ⟨rfl, rfl, rfl⟩ := hr
    exact ⟨[], by simp, fun _ h => h a hk⟩
  | k + 1, [], a, e, lv, cs0, e', cs, l', hk, hr => by simp [runP] at hr
  | k + 1, o :: l, a, e, lv, cs0, e', cs, l', hk, hr => by
    simp only [runP] at hr
    split at hr
    · rename_i hg
      split at hr
      · rename_i v c lv' hq
        split at hr
        · rename_i e1 hp
          obtain ⟨cs1, rfl, h1⟩ := wpl_run ht k l (a.put o.dst v) e1 lv' (cs0 ++ c) e' cs l' (hk.putE hp) hr
          refine ⟨c ++ cs1, by simp, fun hc h => ?_⟩
          obtain ⟨hc1, hc2⟩ := ConjW.append hc
          exact wpl_quiet (guardP_sound hk hg) (quietP_sound ht hk hq hc1) (h1 hc2 h)
        · simp at hr
      · simp at hr
    · rename_i hg
      split at hr
      · rename_i e1 hp
        obtain ⟨cs1, rfl, h1⟩ := wpl_run ht k l (a.put o.dst undef) e1 lv cs0 e' cs l' (hk.putE hp) hr
        refine ⟨cs1, rfl, fun hc h => ?_⟩
        unfold wpListIn
        rw [if_neg (by rw [guardP_sound hk hg]; simp)]
        exact ⟨fun _ _ => trivial, h1 hc h⟩
      · simp at hr
    · simp at hr
/-- A stretch of quiet operations. -/
theorem x_run (ht : TabOK P T) (hk : KnD n ds a e) {k : Nat} {l l' : List Oper} {lv : List Value} {ks : List Nat} {e' : Env} {cs : List Cond} (hr : runK P T n ops k l e lv ks = some (e', cs, l'))
    (hc : ConjW w cs) (h : ∀ a', KnD n ds a' e' → wpListIn (WF ρ) 0 P ops.toArray Q l' a' w) : wpListIn (WF ρ) 0 P ops.toArray Q l a w := by
  unfold runK at hr
  split at hr
  · rename_i e1 cs1 l1 hr1
    split at hr <;> simp at hr
    rename_i r hp
    obtain ⟨rfl, rfl, rfl⟩ := hr
    obtain ⟨cs2, he, h1⟩ := wpl_run ht k l a e lv [] e1 cs1 l1 hk hr1
    simp only [List.nil_append] at he
    subst he
    exact h1 hc fun a' hk' => h a' (hk'.sub (pick_sub hp))
  · simp at hr
/-! ### Continuations -/
variable {K : Act → World → Prop}
theorem then_n (h : K a w) : Exit.then K Q .normal a w := h
theorem then_x {i : Nat} (h : Q (.exit i) a w) : Exit.then K Q (.exit i) a w := h
theorem then_r (h : Q .ret a w) : Exit.then K Q .ret a w := h
theorem blk_n {i : Nat} (h : Q .normal a w) : Exit.inBlock i Q .normal a w := h
theorem blk_r {i : Nat} (h : Q .ret a w) : Exit.inBlock i Q .ret a w := h
theorem blk_x {i : Nat} (h : Q .normal a w) : Exit.inBlock i Q (.exit i) a w := by simp only [Exit.inBlock, if_true]; exact h
theorem x_seq {x y : Code} (h : x.wpIn (WF ρ) 0 P (Exit.then (y.wpIn (WF ρ) 0 P Q) Q) a w) : (Code.seq x y).wpIn (WF ρ) 0 P Q a w := wpIn_seq h
/-- Behind x stands M. -/
theorem x_mid {x y : Code} (M : Act → World → Prop) (h : x.wpIn (WF ρ) 0 P (Exit.then M Q) a w) (h2 : ∀ a w, M a w → y.wpIn (WF ρ) 0 P Q a w) : (Code.seq x y).wpIn (WF ρ) 0 P Q a w :=
  wpIn_seq (wpIn_mono h fun e a w he => by cases e <;> first | exact h2 _ _ he | exact he)
theorem x_if (hk : KnD n ds a e) {c : Operand} {x y : Code} {b : Bool} (hb : evo e c = some (.bool b)) (h : (bif b then x else y).wpIn (WF ρ) 0 P Q a w) : (Code.cond c x y).wpIn (WF ρ) 0 P Q a w := by
  cases b with
  | true => exact wpIn_cond_true (hk.ev hb) h
  | false => exact wpIn_cond_false (hk.ev hb) h
/-- A loop, its rounds counted down. -/
theorem x_loop {c : Code} (I : Nat → Act → World → Prop) {k : Nat} (h0 : I k a w) (hz : ∀ a w, ¬ I 0 a w)
    (round : ∀ k a w, I (k + 1) a w → c.wpIn (WF ρ) 0 P (Exit.then (fun a w => ∃ j, j ≤ k ∧ I j a w) Q) a w) : (Code.loop c).wpIn (WF ρ) 0 P Q a w := by
  refine wpIn_loop_ghost I k h0 fun m a w hI => ?_
  cases m with
  | zero => exact absurd hI (hz a w)
  | succ m =>
    refine wpIn_mono (round m a w hI) fun e a' w' he => ?_
    cases e <;> first | exact he | skip
    obtain ⟨j, hj, hIj⟩ := he
    exact ⟨j, Nat.lt_succ_of_le hj, hIj⟩

/-! ### The function's begin and end -/
def Ret (Φ : Value → World → Prop) : Ending → World → Prop := fun e w => ∃ v, e = .returned v ∧ Φ v w
def entryE : Nat → List Value → Env
  | _, [] => []
  | i, v :: l => (i, v) :: entryE (i + 1) l
theorem look_entry : ∀ (l : List Value) (i t : Nat) (v : Value), look (entryE i l) t = some v → ∃ j, t = i + j ∧ l[j]? = some v
  | [], i, t, v, h => by simp [entryE, look] at h
  | u :: l, i, t, v, h => by
    simp only [entryE, look] at h
    cases hb : Nat.beq i t with
    | true =>
      have := Nat.eq_of_beq_eq_true hb
      subst this
      simp only [hb, cond_true, Option.some.injEq] at h
      exact ⟨0, rfl, by simp [h]⟩
    | false =>
      simp only [hb, cond_false] at h
      obtain ⟨j, rfl, hj⟩ := look_entry l (i + 1) t v h
      exact ⟨j + 1, by omega, by simpa using hj⟩
theorem x_enter {f : FuncId} {fn : Func} {c : Code} {vs : List Value} {R : Ending → World → Prop} (hf : P.funcs[f]? = some fn) (hb : fn.body = some c) (hn : fn.ntmps = n) (hl : Nat.ble vs.length n = true)
    (h : ∀ a, KnD n [] a (entryE 0 vs) → c.wpIn (WF none) 0 P (bodyPost P fn R) a w) : Calls P f vs.toArray w R := by
  subst hn
  have hl' : vs.length ≤ fn.ntmps := by simpa using hl
  refine calls_of_wp hf hb ((wpIn_wide (n := 0)).1 (h _ ⟨by simp; omega, rfl, fun t v hv => ?_⟩))
  obtain ⟨j, rfl, hj⟩ := look_entry vs 0 t v hv
  have hjl : j < vs.length := (List.getElem?_eq_some_iff.1 hj).1
  simp only [Nat.zero_add]
  rw [Array.getElem?_append_left (by simpa using hjl)]
  simpa using hj
/-- Any results: each told. -/
theorem x_ret {fn : Func} {v : Value} {Φ : Value → World → Prop} (hk : KnD n [] a e) (hr : (results fn a.tmps).run P w = .ok v w) (h : Φ v w) : bodyPost P fn (Ret Φ) .ret a w :=
  ⟨hk.defers, v, hr, v, rfl, h⟩

/-! ### Operations that may turn the world, at 'Oper.wp' -/
def EntersF (P : Program) (f : FuncId) : Prop := ∀ args w, (callFunc f args).run P w = .ok (.enter f args) w
theorem enters_of' {f : FuncId} {fn : Func} (hf : P.funcs[f]? = some fn) (hn : (fn.name == "runtime.NumGoroutine") = false) (hb : fn.body.isSome = true) : EntersF P f := by
  intro args w
  have : fn.body ≠ none := by cases h : fn.body <;> simp [h] at hb ⊢
  simp only [beq_eq_false_iff_ne] at hn
  simp [callFunc, hf, hn, this]
theorem x_op {o : Oper} {rest : List Oper} (hk : KnD n ds a e) (hg : guardP ops e o = some true) (h : o.wpIn (WF ρ) 0 P a w (wpListIn (WF ρ) 0 P ops.toArray Q rest) Q) : wpListIn (WF ρ) 0 P ops.toArray Q (o :: rest) a w := by
  unfold wpListIn
  rw [if_pos (guardP_sound hk hg)]
  exact h
theorem op_call {d : Option Tmp} {f : FuncId} {args : Array Operand} {ts : Array TypeId} {ty : TypeId} {pos : String} {af : Array Edge} {g : Option (Nat × Bool)} {vs : List Value} {Φ : Value → World → Prop}
    (hk : KnD n ds a e) (he : EntersF P f) (hv : allSome (args.toList.map (evo e)) = some vs) (hc : Calls P f vs.toArray w (Ret Φ)) (h : ∀ v w', Φ v w' → K (a.put d v) w') :
    (Oper.mk d (.call { callee := .value (.func f), args := args, argTypes := ts }) ty pos af g).wpIn (WF ρ) 0 P a w K Q := by
  have h1 := allSome_map (ev := evo e) (ρ := a.eval) (fun x v hx => hk.ev hx) _ _ hv
  have h2 : args.map a.eval = vs.toArray := Array.toList_inj.1 (by simpa using h1)
  have h3 : (execOp a.eval (Oper.mk d (.call { callee := .value (.func f), args := args, argTypes := ts }) ty pos af g)).run P w = .ok (.enter f vs.toArray) w := by
    simp [execOp, resolve, Act.eval, Deferred.ofValue, invoke, h2, he _ w]
  exact wf_enter h3 hc fun en w' ⟨v, hen, hΦ⟩ => ⟨v, hen, h v w' hΦ⟩
theorem op_callv {d : Option Tmp} {t : Nat} {f : FuncId} {args : Array Operand} {ts : Array TypeId} {ty : TypeId} {pos : String} {af : Array Edge} {g : Option (Nat × Bool)} {vs : List Value} {fi ca : Array Value} {Φ : Value → World → Prop}
    (hk : KnD n ds a e) (he : EntersF P f) (hf : look e t = some (.func (.func f) fi ca)) (hv : allSome (args.toList.map (evo e)) = some vs) (hc : Calls P f (fi ++ vs.toArray ++ ca) w (Ret Φ)) (h : ∀ v w', Φ v w' → K (a.put d v) w') :
    (Oper.mk d (.call { callee := .value (.tmp t), args := args, argTypes := ts }) ty pos af g).wpIn (WF ρ) 0 P a w K Q := by
  have h1 := allSome_map (ev := evo e) (ρ := a.eval) (fun x v hx => hk.ev hx) _ _ hv
  have h2 : args.map a.eval = vs.toArray := Array.toList_inj.1 (by simpa using h1)
  have h4 : a.eval (.tmp t) = .func (.func f) fi ca := hk.ev (x := .tmp t) hf
  have h3 : (execOp a.eval (Oper.mk d (.call { callee := .value (.tmp t), args := args, argTypes := ts }) ty pos af g)).run P w = .ok (.enter f (fi ++ vs.toArray ++ ca)) w := by
    simp [execOp, resolve, h4, Deferred.ofValue, invoke, h2, he _ w]
  exact wf_enter h3 hc fun en w' ⟨v, hen, hΦ⟩ => ⟨v, hen, h v w' hΦ⟩
end
end Go.Proofs.XC

set_option linter.unusedSimpArgs false
set_option linter.unusedVariables false
namespace Go.Proofs.XC
open Go

/-! ### Worlds: what is kept, and labels of blocks -/
structure St (M : List Nat) (w : World) (o : Nat → Nat) (w' : World) (o' : Nat → Nat) : Prop where
  os : w'.os = w.os
  tape : w'.tape = w.tape
  output : w'.output = w.output
  size : w.heap.size ≤ w'.heap.size
  lab : ∀ b, b < w.heap.size → o b ∉ M → o' b = o b
  kept : ∀ b, b < w.heap.size → o b ∉ M → w'.heap[b]? = w.heap[b]?
/-- P holds in w and in every world that has w's blocks of the label L. -/
def Ft (P : World → Prop) (w : World) (o : Nat → Nat) (L : Nat) : Prop := ∀ w' : World, (∀ b, o b = L → b < w.heap.size → w'.heap[b]? = w.heap[b]?) → P w'

section
variable {P Q : World → Prop} {w w' w2 : World} {o o' o2 : Nat → Nat} {L L' : Nat} {M N : List Nat}
theorem St.refl (M : List Nat) (w : World) (o : Nat → Nat) : St M w o w o := ⟨rfl, rfl, rfl, Nat.le_refl _, fun _ _ _ => rfl, fun _ _ _ => rfl⟩
theorem St.trans (h : St M w o w' o') (k : St M w' o' w2 o2) : St M w o w2 o2 :=
  ⟨k.os.trans h.os, k.tape.trans h.tape, k.output.trans h.output, Nat.le_trans h.size k.size, fun b hb hm => (k.lab b (Nat.lt_of_lt_of_le hb h.size) (by rw [h.lab b hb hm]; exact hm)).trans (h.lab b hb hm),
   fun b hb hm => (k.kept b (Nat.lt_of_lt_of_le hb h.size) (by rw [h.lab b hb hm]; exact hm)).trans (h.kept b hb hm)⟩
/-- What is turned beside M lies at labels that the first world hasn't. -/
theorem St.then (h : St M w o w' o') (k : St N w' o' w2 o2) (hn : ∀ b, b < w.heap.size → o b ∈ N → o b ∈ M) : St M w o w2 o2 :=
  ⟨k.os.trans h.os, k.tape.trans h.tape, k.output.trans h.output, Nat.le_trans h.size k.size, fun b hb hm => (k.lab b (Nat.lt_of_lt_of_le hb h.size) (by rw [h.lab b hb hm]; exact fun hx => hm (hn b hb hx))).trans (h.lab b hb hm),
   fun b hb hm => (k.kept b (Nat.lt_of_lt_of_le hb h.size) (by rw [h.lab b hb hm]; exact fun hx => hm (hn b hb hx))).trans (h.kept b hb hm)⟩
theorem Ft.now (h : Ft P w o L) : P w := h w (fun _ _ _ => rfl)
theorem Ft.imp (h : Ft P w o L) (hi : ∀ w, P w → Q w) : Ft Q w o L := fun w' hw => hi _ (h w' hw)
theorem Ft.mono (h : Ft P w o L) (hl : ∀ b, o b = L → b < w.heap.size → o' b = L') : Ft P w o' L' := fun w' hw => h w' fun b hb hlt => hw b (hl b hb hlt) hlt
theorem Ft.st (h : Ft P w o L) (hs : St M w o w' o') (hL : L ∉ M) : Ft P w' o' L := fun w'' hw => h w'' fun b hb hlt =>
  (hw b ((hs.lab b hlt (by rw [hb]; exact hL)).trans hb) (Nat.lt_of_lt_of_le hlt hs.size)).trans (hs.kept b hlt (by rw [hb]; exact hL))
theorem Ft.and (h : Ft P w o L) (k : Ft Q w o L) : Ft (fun w => P w ∧ Q w) w o L := fun w' hw => ⟨h w' hw, k w' hw⟩

/-! ### Boxes -/
def Bx (b : Nat) (t : TypeId) (cs : List Value) (w : World) : Prop := w.heap[b]? = some (.cells cs.toArray t (0, 0))
theorem Ft.box {b t : Nat} {cs : List Value} (h : Bx b t cs w) (ho : o b = L) : Ft (Bx b t cs) w o L := fun w' hw => by
  have hlt : b < w.heap.size := (Array.getElem?_eq_some_iff.1 h).1
  exact (hw b ho hlt).trans h
theorem Ft.box_lab {b t : Nat} {cs : List Value} (h : Ft (Bx b t cs) w o L) : o b = L := by
  by_cases ho : o b = L
  · exact ho
  · have h1 : Bx b t cs w := h.now
    have hlt : b < w.heap.size := (Array.getElem?_eq_some_iff.1 h1).1
    have h2 := h { w with heap := w.heap.set b (.map #[] 0) hlt } (fun c hc hcl => by
      have : c ≠ b := fun e => ho (e ▸ hc)
      simp [Array.getElem?_set, Ne.symm this])
    unfold Bx at h2
    simp at h2
theorem Bx.cell {b t : Nat} {cs : List Value} (h : Bx b t cs w) (j : Nat) : w.cell? ((⟨b, 0, none⟩ : Addr).add j) = cs[j]? := by
  unfold Bx at h
  have : (⟨b, 0, none⟩ : Addr).add j = ⟨b, j, none⟩ := by unfold Addr.add; split <;> simp_all
  simp [World.cell?, this, h]
theorem Bx.cell2 {b t : Nat} {cs : List Value} (h : Bx b t cs w) (i j : Nat) : w.cell? (((⟨b, 0, none⟩ : Addr).add i).add j) = cs[i + j]? := by
  rw [← Bx.cell h (i + j)]
  congr 1
  unfold Addr.add
  by_cases hi : i = 0
  · subst hi; simp
  · by_cases hj : j = 0
    · subst hj; simp
    · simp [hi, hj]

theorem Bx.free {b t : Nat} {cs : List Value} (h : Bx b t cs w) (ad : Addr) (ha : ad.block = b) : w.frozen? ad = false := by
  unfold Bx at h
  simp [World.frozen?, ha, h]
end

/-! ### Rows that are read: each element by its cells -/
structure Enc (α : Type) where
  sz : Nat
  f : α → List Value
  len : ∀ x, (f x).length = sz
  one : ∀ x, (f x).all Value.oneCell' = true
def rdD {α : Type} (d : α) (xs : List α) (i : Int) : α := xs.getD i.toNat d
def RdC {α : Type} (E : Enc α) (A : Option Addr) (xs : List α) (w : World) : Prop :=
  0 < xs.length → ∃ ad, A = some ad ∧ ∀ (i : Nat) (x : α), xs[i]? = some x → ∀ (j : Nat) (v : Value), (E.f x)[j]? = some v → w.cell? ((ad.add (i * E.sz)).add j) = some v
section
variable {α : Type} {E : Enc α} {A : Option Addr} {ad : Addr} {xs : List α} {w : World}
theorem RdC.addr (h : RdC E A xs w) {i : Int} (hi : 0 ≤ i ∧ i < (xs.length : Int)) : ∃ ad, A = some ad := by
  obtain ⟨ad, ha, _⟩ := h (by omega)
  exact ⟨ad, ha⟩
theorem RdC.at {d : α} (h : RdC E (some ad) xs w) {i : Int} (hi : 0 ≤ i ∧ i < (xs.length : Int)) {j : Nat} {v : Value} (hv : (E.f (rdD d xs i))[j]? = some v) : w.cell? ((ad.add (i.toNat * E.sz)).add j) = some v := by
  obtain ⟨ad', ha, hc⟩ := h (by omega)
  cases ha
  have hl : i.toNat < xs.length := by omega
  exact hc i.toNat (rdD d xs i) (by simp [rdD, List.getD_eq_getElem?_getD, List.getElem?_eq_getElem hl]) j v hv
end
def encInt (k : IntKind) : Enc Int := ⟨1, fun x => [.int k x], fun _ => rfl, fun _ => rfl⟩
def encBool : Enc Bool := ⟨1, fun x => [.bool x], fun _ => rfl, fun _ => rfl⟩
def encStr : Enc ByteArray := ⟨1, fun x => [.string x], fun _ => rfl, fun _ => rfl⟩

section
variable {P : Program} {T : Tab} {w : World}
theorem load1 (ht : TabOK P T) {t : TypeId} {ad : Addr} {v : Value} (ha : aggT T t = some false) (h : w.cell? ad = some v) : LoadIs P t ad v w := by
  unfold LoadIs loadVar
  simp [run_isAgg' (w := w) ht ha, h]
theorem run_loadCells : ∀ (n i : Nat) (ad : Addr) (acc : Array Value) (cs : List Value), cs.length = n → (∀ j, j < n → w.cell? (ad.add (i + j)) = cs[j]?) → (loadCellsFrom ad i n acc).run P w = .ok (acc ++ cs.toArray) w
  | 0, i, ad, acc, cs, hl, _ => by
    obtain rfl : cs = [] := List.eq_nil_of_length_eq_zero hl
    simp [loadCellsFrom]
  | n + 1, i, ad, acc, [], hl, _ => by simp at hl
  | n + 1, i, ad, acc, c :: cs, hl, hc => by
    have h0 := hc 0 (by omega)
    simp only [Nat.add_zero, List.getElem?_cons_zero] at h0
    have ih := run_loadCells n (i + 1) ad (acc.push c) cs (by simpa using hl) (fun j hj => by
      have := hc (j + 1) (by omega)
      rw [show i + 1 + j = i + (j + 1) by omega]
      simpa using this)
    simp [loadCellsFrom, h0, ih]
theorem loadN (ht : TabOK P T) {t s b : Nat} {z : Value} {ad : Addr} {cs : List Value} (ha : aggT T t = some true) (hi : find T.inf t = some (s, b, z)) (hl : cs.length = s)
    (h : ∀ j, j < s → w.cell? (ad.add j) = cs[j]?) : LoadIs P t ad (.agg cs.toArray) w := by
  unfold LoadIs loadVar
  have := run_loadCells (P := P) (w := w) s 0 ad #[] cs hl (by simpa using h)
  simp [run_isAgg' (w := w) ht ha, run_sizeOf' ht hi, loadCells, this]
end
end Go.Proofs.XC

set_option linter.unusedSimpArgs false
set_option linter.unusedVariables false
namespace Go.Proofs.XC
open Go

section
variable {ρ : Option Nat} {ds : List Deferred} {P : Program} {T : Tab} {n : Nat} {a : Act} {e : Env} {w w' : World} {o o' : Nat → Nat} {L : Nat} {ops : List Oper} {Q : Exit → Act → World → Prop} {K : Act → World → Prop}
  {d : Option Tmp} {ty : TypeId} {pos : String} {af : Array Edge} {g : Option (Nat × Bool)}

theorem op_of_run {x : Oper} {v : Value} (hr : (execOp a.eval x).run P w = .ok (.value v) w') (h : K (a.put x.dst v) w') : x.wpIn (WF ρ) 0 P a w K Q := by
  exact wf_value hr h
theorem op_of_skip {x : Oper} (hr : (execOp a.eval x).run P w = .ok .skip w') (h : K (a.put x.dst undef) w') : x.wpIn (WF ρ) 0 P a w K Q := by
  exact wf_skip hr h

/-! ### New blocks -/
def newLab (o : Nat → Nat) (b L : Nat) : Nat → Nat := fun x => if x = b then L else o x
theorem St.alloc (M : List Nat) (w : World) (o : Nat → Nat) (ob : Obj) (L : Nat) : St M w o (w.alloc ob) (newLab o w.heap.size L) :=
  ⟨rfl, rfl, rfl, by simp, fun b hb _ => by simp [newLab, Nat.ne_of_lt hb], fun b hb _ => heap_alloc_old w ob hb⟩
theorem Ft.alloc (w : World) (o : Nat → Nat) (t : TypeId) (cs : List Value) (L : Nat) : Ft (Bx w.heap.size t cs) (w.alloc (.cells cs.toArray t)) (newLab o w.heap.size L) L :=
  Ft.box (heap_alloc_new w _) (by simp [newLab])
theorem op_alloc (ht : TabOK P T) {t s b : Nat} {z : Value} {cs : List Value} (hz : find T.inf t = some (s, b, z)) (hc : z.cells.toList = cs) (L : Nat)
    (h : ∀ (b : Nat) w' o', St [] w o w' o' → Ft (Bx b t cs) w' o' L → K (a.put d (.pointer (some ⟨b, 0, none⟩))) w') :
    (Oper.mk d (.alloc t) ty pos af g).wpIn (WF ρ) 0 P a w K Q := by
  have hc' : z.cells = cs.toArray := by rw [← hc]
  refine op_of_run (v := .pointer (some ⟨w.heap.size, 0, none⟩)) (w' := w.alloc (.cells cs.toArray t)) ?_ (h _ _ _ (St.alloc [] w o _ L) (Ft.alloc w o t cs L))
  simp [execOp, Instr.alloc, run_zeroValue' ht hz, newVar, newRow, hc']
theorem op_box {t : Nat} {x : Operand} {v : Value} {cs : List Value} (hk : KnD n ds a e) (hx : evo e x = some v) (hc : v.cells.toList = cs) (L : Nat)
    (h : ∀ (b : Nat) w' o', St [] w o w' o' → Ft (Bx b t cs) w' o' L → K (a.put d (.pointer (some ⟨b, 0, none⟩))) w') :
    (Oper.mk d (.box t x) ty pos af g).wpIn (WF ρ) 0 P a w K Q := by
  have hc' : v.cells = cs.toArray := by rw [← hc]
  refine op_of_run (v := .pointer (some ⟨w.heap.size, 0, none⟩)) (w' := w.alloc (.cells cs.toArray t)) ?_ (h _ _ _ (St.alloc [] w o _ L) (Ft.alloc w o t cs L))
  simp [execOp, Instr.box, newVar, newRow, hk.ev hx, hc']

/-! ### A store into a box -/
theorem setCell_far (w : World) (p : Addr) (v : Value) (c : Nat) (h : c ≠ p.block) : (w.setCell p v).heap[c]? = w.heap[c]? := by
  simp only [World.setCell]
  rw [Array.getElem?_modify, if_neg (Ne.symm h)]
theorem run_storeCells {b : Nat} {t : TypeId} : ∀ (vs : List Value) (i k : Nat) (cs : List Value) (w : World), Bx b t cs w → (∀ v ∈ vs, v.oneCell' = true) → k + i + vs.length ≤ cs.length →
    ∃ w', (storeCells ((⟨b, 0, none⟩ : Addr).add k) vs i).run P w = .ok () w' ∧ Bx b t (cs.take (k + i) ++ vs ++ cs.drop (k + i + vs.length)) w' ∧ w'.os = w.os ∧ w'.tape = w.tape ∧ w'.output = w.output ∧ w'.heap.size = w.heap.size ∧ ∀ c, c ≠ b → w'.heap[c]? = w.heap[c]?
  | [], i, k, cs, w, hb, _, _ => ⟨w, by simp [storeCells], by simpa using hb, rfl, rfl, rfl, rfl, fun _ _ => rfl⟩
  | v :: vs, i, k, cs, w, hb, h1, hl => by
    simp only [List.length_cons] at hl
    have had : ((⟨b, 0, none⟩ : Addr).add k).add i = ⟨b, k + i, none⟩ := by
      unfold Addr.add
      by_cases hk : k = 0 <;> by_cases hi : i = 0 <;> simp [hk, hi]
    have hc : w.cell? ⟨b, k + i, none⟩ = cs[k + i]? := by
      have := Bx.cell hb (k + i)
      rwa [show (⟨b, 0, none⟩ : Addr).add (k + i) = ⟨b, k + i, none⟩ by unfold Addr.add; split <;> simp_all] at this
    have hsome : cs[k + i]? = some cs[k + i] := List.getElem?_eq_getElem (by omega)
    have hfr := Bx.free hb ⟨b, k + i, none⟩ rfl
    have hb2 : Bx b t (cs.set (k + i) v) (w.setCell ⟨b, k + i, none⟩ v) := by
      unfold Bx at hb ⊢
      have hlt : b < w.heap.size := (Array.getElem?_eq_some_iff.1 hb).1
      simp only [World.setCell]
      rw [Array.getElem?_modify]
      simp [hb]
    obtain ⟨w', hr, hb', ho, htp, hout, hsz, hk'⟩ := run_storeCells vs (i + 1) k (cs.set (k + i) v) _ hb2 (fun u hu => h1 u (List.mem_cons_of_mem _ hu)) (by simp only [List.length_set]; omega)
    refine ⟨w', ?_, ?_, ho.trans rfl, htp.trans rfl, hout.trans rfl, hsz.trans (by simp), fun c hc' => (hk' c hc').trans ?_⟩
    · simp only [storeCells, Sem.run_bind, had, run_store P w _ v .plain (h1 v List.mem_cons_self), hc, hsome, hfr]
      simpa using hr
    · have e1 : (cs.set (k + i) v).take (k + (i + 1)) = cs.take (k + i) ++ [v] := by
        rw [List.take_set, ← Nat.add_assoc, List.take_succ_eq_append_getElem (by omega : k + i < cs.length)]
        rw [List.set_append_right _ _ (by simp; omega)]
        simp [Nat.min_eq_left (by omega : k + i ≤ cs.length)]
      have e2 : (cs.set (k + i) v).drop (k + (i + 1) + vs.length) = cs.drop (k + i + (vs.length + 1)) := by
        rw [List.drop_set_of_lt (by omega)]
        congr 1
        omega
      rw [e1, e2] at hb'
      simpa using hb'
    · exact setCell_far w ⟨b, k + i, none⟩ v c hc'
/-- A store at an offset k of a box. -/
theorem op_store (ht : TabOK P T) (hk : KnD n ds a e) {t s bb : Nat} {z : Value} {x y : Operand} {ad : Addr} {v : Value} {b k t' : Nat} {cs cs' : List Value}
    (hi : find T.inf t = some (s, bb, z)) (hx : evo e x = some (.pointer (some ad))) (hy : evo e y = some v) (had : ad = (⟨b, 0, none⟩ : Addr).add k)
    (hs : v.cells.size = s) (h1 : (v.cells.toList.all Value.oneCell') = true) (hb : Ft (Bx b t' cs) w o L) (hl : Nat.ble (k + s) cs.length = true) (hc : cs.take k ++ v.cells.toList ++ cs.drop (k + s) = cs')
    (h : ∀ w' o', St [L] w o w' o' → Ft (Bx b t' cs') w' o' L → K (a.put d undef) w') :
    (Oper.mk d (.store t x y) ty pos af g).wpIn (WF ρ) 0 P a w K Q := by
  have hl' : k + s ≤ cs.length := by simpa using hl
  obtain ⟨w', hr, hb', ho, htp, hout, hsz, hk'⟩ := run_storeCells (P := P) v.cells.toList 0 k cs w hb.now (fun u hu => List.all_eq_true.1 h1 u hu) (by simp [hs]; omega)
  have hL := hb.box_lab
  refine op_of_skip (w' := w') ?_ (h w' o ⟨ho, htp, hout, by omega, fun _ _ _ => rfl, fun c _ hcm => hk' c (fun e => hcm (by rw [e, hL]; simp))⟩ (Ft.box (by rw [← hc]; simpa [hs] using hb') hL))
  simp [execOp, Instr.storeAt, hk.ev hx, hk.ev hy, Instr.sureAddr, storeVar, hs, run_sizeOf' ht hi, had, hr]

/-! ### Rows of one's own -/
/-- A row that may be appended to: nil, or from the head of a block on. -/
def Own {α : Type} (E : Enc α) (t : TypeId) (v : Value) (xs : List α) (w : World) : Prop := w.ownsRow 0 t E.sz v xs.length (xs.flatMap E.f)
theorem flat_at {α : Type} (E : Enc α) : ∀ (xs : List α) (i : Nat) (x : α), xs[i]? = some x → ∀ (j : Nat) (v : Value), (E.f x)[j]? = some v → (xs.flatMap E.f)[i * E.sz + j]? = some v
  | [], i, x, h, _, _, _ => by simp at h
  | y :: ys, 0, x, h, j, v, hv => by
    simp only [List.getElem?_cons_zero, Option.some.injEq] at h
    subst h
    simp only [List.flatMap_cons, Nat.zero_mul, Nat.zero_add]
    rw [List.getElem?_append_left (List.getElem?_eq_some_iff.1 hv).1]
    exact hv
  | y :: ys, i + 1, x, h, j, v, hv => by
    simp only [List.getElem?_cons_succ] at h
    have := flat_at E ys i x h j v hv
    simp only [List.flatMap_cons]
    rw [List.getElem?_append_right (by rw [E.len]; rw [Nat.add_mul]; omega), E.len]
    rw [← this]
    congr 1
    rw [Nat.add_mul]; omega
theorem flat_len {α : Type} (E : Enc α) : ∀ xs : List α, (xs.flatMap E.f).length = xs.length * E.sz
  | [] => by simp
  | x :: xs => by simp [flat_len E xs, E.len, Nat.add_mul, Nat.add_comm]
theorem Own.shape {α : Type} {E : Enc α} {t : TypeId} {v : Value} {xs : List α} (h : Own E t v xs w) : ∃ A c, v = .slice A xs.length c ∧ xs.length ≤ c ∧ c ≤ 9223372036854775807 := by
  rcases h.2 with ⟨rfl, h0⟩ | ⟨g, cap, cur, rfl, _, _, h1, h2, _⟩
  · exact ⟨none, 0, by rw [h0], by omega, by omega⟩
  · exact ⟨_, cap, rfl, h1, by simp only [maxLen] at h2; omega⟩
theorem add_flat (g : Nat) (i j : Nat) : ((⟨g, 0, none⟩ : Addr).add i).add j = (⟨g, 0, none⟩ : Addr).add (i + j) := by
  unfold Addr.add
  by_cases hi : i = 0 <;> by_cases hj : j = 0 <;> simp [hi, hj]
theorem Own.rd {α : Type} {E : Enc α} {t : TypeId} {A : Option Addr} {k c : Nat} {xs : List α} (h : Own E t (.slice A k c) xs w) : RdC E A xs w := by
  intro h0
  rcases h.2 with ⟨_, hn⟩ | ⟨g, cap, cur, hv, hb, hg, h1, h2, h3, h4⟩
  · omega
  · injection hv with hA hk hc
    refine ⟨⟨g, 0, none⟩, hA, fun i x hx j v hv => ?_⟩
    have hf := flat_at E xs i x hx j v hv
    rw [← h4, List.getElem?_take] at hf
    split at hf
    · rw [add_flat]
      have e1 : (⟨g, 0, none⟩ : Addr).add (i * E.sz + j) = ⟨g, i * E.sz + j, none⟩ := by unfold Addr.add; split <;> simp_all
      rw [e1]
      simp [World.cell?, hg]
      simpa using hf
    · simp at hf
theorem Own.nil {α : Type} (E : Enc α) (t : TypeId) (w : World) : Own E t (.slice none 0 0) ([] : List α) w := ⟨by simp, .inl ⟨rfl, rfl⟩⟩
theorem Ft.of_all {P : World → Prop} (h : ∀ w, P w) (w : World) (o : Nat → Nat) (L : Nat) : Ft P w o L := fun w' _ => h w'
theorem Own.lab {α : Type} {E : Enc α} {t : TypeId} {v : Value} {xs : List α} (h : Ft (Own E t v xs) w o L) : ∀ g, v.ownBlock = some g → o g = L := by
  intro g hg
  by_cases ho : o g = L
  · exact ho
  · have h1 := h.now
    rcases h1.2 with ⟨rfl, _⟩ | ⟨g', cap, cur, rfl, _, hh, _⟩
    · simp [Value.ownBlock] at hg
    · have hgg : g' = g := by simpa [Value.ownBlock] using hg
      subst hgg
      have hlt : g' < w.heap.size := (Array.getElem?_eq_some_iff.1 hh).1
      have h2 := h { w with heap := w.heap.set g' (.map #[] 0) hlt } (fun c hc hcl => by
        have : c ≠ g' := fun e => ho (e ▸ hc)
        simp [Array.getElem?_set, Ne.symm this])
      rcases h2.2 with ⟨hx, _⟩ | ⟨g2, cap2, cur2, hv, _, hh2, _⟩
      · cases hx
      · injection hv with hv _ _
        injection hv with hv
        injection hv with hv _ _
        subst hv
        simp at hh2
/-- A literal: a new block, an own row. -/
theorem Own.of_box {α : Type} {E : Enc α} {t b : Nat} {cs : List Value} {xs : List α} (h : Bx b t cs w) (hx : xs.flatMap E.f = cs) (hm : xs.length ≤ 9223372036854775807) : Own E t (.slice (some ⟨b, 0, none⟩) xs.length xs.length) xs w := by
  refine ⟨flat_len E xs, .inr ⟨b, xs.length, cs.toArray, rfl, Nat.zero_le _, h, Nat.le_refl _, by simp only [maxLen]; omega, ?_, ?_⟩⟩
  · rw [← hx, List.size_toArray, flat_len]
  · rw [← hx, ← flat_len E xs, List.toList_toArray, List.take_length]
theorem RdC.of_box {α : Type} {E : Enc α} {t b : Nat} {cs : List Value} {xs : List α} (h : Bx b t cs w) (hx : xs.flatMap E.f = cs) : RdC E (some ⟨b, 0, none⟩) xs w := by
  intro _
  refine ⟨_, rfl, fun i x hi j v hv => ?_⟩
  rw [add_flat, Bx.cell h, ← hx]
  exact flat_at E xs i x hi j v hv
theorem RdC.news {α : Type} {E : Enc α} {ad : Addr} {ys : List α} (h : RdC E (some ad) ys w) : ∀ (j : Nat) (u : Value), (ys.flatMap E.f)[j]? = some u → w.cell? (ad.add j) = some u := by
  intro j u hu
  have hj : j < (ys.flatMap E.f).length := (List.getElem?_eq_some_iff.1 hu).1
  rw [flat_len] at hj
  have hpos : 0 < E.sz := by
    rcases Nat.eq_zero_or_pos E.sz with h0 | h0
    · rw [h0] at hj; omega
    · exact h0
  have hq : j / E.sz < ys.length := (Nat.div_lt_iff_lt_mul hpos).2 hj
  have h0 : 0 < ys.length := Nat.lt_of_le_of_lt (Nat.zero_le _) hq
  obtain ⟨ad', ha, hc⟩ := h h0
  cases ha
  obtain ⟨x, hx⟩ : ∃ x, ys[j / E.sz]? = some x := ⟨_, List.getElem?_eq_getElem hq⟩
  have hr : j % E.sz < E.sz := Nat.mod_lt _ hpos
  obtain ⟨v, hv⟩ : ∃ v, (E.f x)[j % E.sz]? = some v := ⟨_, List.getElem?_eq_getElem (by rw [E.len]; exact hr)⟩
  have h1 := flat_at E ys _ _ hx _ v hv
  have e : j / E.sz * E.sz + j % E.sz = j := by rw [Nat.mul_comm]; exact Nat.div_add_mod j E.sz
  rw [e, hu] at h1
  cases h1
  have h2 := hc _ _ hx _ u hv
  have e2 : (ad.add (j / E.sz * E.sz)).add (j % E.sz) = ad.add j := by
    unfold Addr.add
    by_cases ha : j / E.sz * E.sz = 0
    · rw [ha] at e; simp only [Nat.zero_add] at e
      simp [ha, e]
    · by_cases hb : j % E.sz = 0
      · rw [hb] at e; simp only [Nat.add_zero] at e
        have : j ≠ 0 := by omega
        simp [ha, hb, e, this]
      · have : j ≠ 0 := by omega
        simp [ha, hb, this]; omega
  rwa [e2] at h2
end
end Go.Proofs.XC

set_option linter.unusedSimpArgs false
set_option linter.unusedVariables false
namespace Go.Proofs.XC
open Go

section
variable {ρ : Option Nat} {ds : List Deferred} {P : Program} {T : Tab} {n : Nat} {a : Act} {e : Env} {w w' : World} {o o' : Nat → Nat} {L : Nat} {Q : Exit → Act → World → Prop} {K : Act → World → Prop}
  {d : Option Tmp} {ty : TypeId} {pos : String} {af : Array Edge} {g : Option (Nat × Bool)} {α : Type} {E : Enc α}

theorem op_buildSlice (ht : TabOK P T) (hk : KnD n ds a e) {t el len s b : Nat} {z : Value} {parts : Array (Nat × Operand)} {vs : List Value} {cs : List Value}
    (hu : find T.und t = some (.slice el)) (hi : find T.inf el = some (s, b, z)) (hv : allSome (parts.toList.map fun p => evo e p.2) = some vs) (hsz : Nat.ble (len * s) 16777216 = true)
    (hf : Instr.fill (fun i => some (i * s, s)) ((Array.range (len * s)).map (fun i => (if len * s = 0 then #[] else z.cells)[i % (if len * s = 0 then #[] else z.cells).size]!)) ((parts.toList.map (·.1)).zip vs) = some cs.toArray) (L : Nat)
    (h : ∀ (b : Nat) w' o', St [] w o w' o' → Ft (Bx b el cs) w' o' L → K (a.put d (.slice (some ⟨b, 0, none⟩) len len)) w') :
    (Oper.mk d (.buildSlice t len parts) ty pos af g).wpIn (WF ρ) 0 P a w K Q := by
  refine op_of_run (v := .slice (some ⟨w.heap.size, 0, none⟩) len len) (w' := w.alloc (.cells cs.toArray el)) ?_ (h _ _ _ (St.alloc [] w o _ L) (Ft.alloc w o el cs L))
  have hsz' : ¬ 16777216 < len * s := by have : len * s ≤ 16777216 := by simpa using hsz
                                         omega
  have hvs : ∀ (l : List (Nat × Operand)) (r : List Value), allSome (l.map fun p => evo e p.2) = some r → l.map (fun x => (x.1, a.eval x.2)) = (l.map (·.1)).zip r := by
    intro l
    induction l with
    | nil => intro r hr; simp
    | cons p l ih =>
      intro r hr
      simp only [List.map_cons] at hr
      cases hp2 : evo e p.2 with
      | none => simp [hp2, allSome] at hr
      | some u =>
        simp only [hp2, allSome] at hr
        cases hl : allSome (l.map fun p => evo e p.2) with
        | none => simp [hl] at hr
        | some q =>
          simp only [hl, Option.some.injEq] at hr
          subst hr
          simp [hk.ev hp2, ih q hl]
  have h1 := run_underlying' (w := w) (ht.u hu)
  have h2 := run_sizeOf' (w := w) ht hi
  have h3 := run_zeroValue' (w := w) ht hi
  have h4 : (parts.map fun x => (x.1, a.eval x.2)).toList = (parts.toList.map (·.1)).zip vs := by rw [Array.toList_map]; exact hvs _ _ hv
  simp only [execOp, Instr.buildSlice, Sem.run_bind, h1, Result.andThen_ok, h2, Sem.run_ite, Nat.reducePow, gt_iff_lt]
  rw [if_neg hsz']
  by_cases h0 : len * s = 0
  · have e0 : Array.range 0 = #[] := rfl
    simp only [h0, if_true, e0, List.map_toArray, List.map_nil] at hf ⊢
    simp only [h4]
    simp [hf, newRow]
  · simp only [h0, if_false] at hf ⊢
    simp only [h4, h3, Sem.run_bind, Result.andThen_ok, Sem.run_pure]
    simp [hf, newRow]

theorem Own.move {v : Value} {xs : List α} {t : TypeId} (h : Own E t v xs w) (hm : ∀ k, v.ownBlock = some k → w'.heap[k]? = w.heap[k]?) : Own E t v xs w' := by
  obtain ⟨h1, h2⟩ := h
  refine ⟨h1, ?_⟩
  rcases h2 with h2 | ⟨g, cap, cur, rfl, hg, hh, r⟩
  · exact .inl h2
  · exact .inr ⟨g, cap, cur, rfl, hg, (hm g (by simp [Value.ownBlock])).trans hh, r⟩
theorem Own.ft {v : Value} {xs : List α} {t : TypeId} (h : Own E t v xs w) (ho : ∀ k, v.ownBlock = some k → o k = L) : Ft (Own E t v xs) w o L := fun w' hw =>
  h.move fun k hk => hw k (ho k hk) (by
    rcases h.2 with ⟨rfl, _⟩ | ⟨g, cap, cur, rfl, _, hh, _⟩
    · simp [Value.ownBlock] at hk
    · have : g = k := by simpa [Value.ownBlock] using hk
      subst this
      exact (Array.getElem?_eq_some_iff.1 hh).1)
theorem flat_one (xs : List α) : ∀ u ∈ xs.flatMap E.f, u.oneCell' = true := by
  intro u hu
  obtain ⟨x, _, hx⟩ := List.mem_flatMap.1 hu
  exact List.all_eq_true.1 (E.one x) u hx

/-- append(s, x...): s a row of one's own, x any row that is read. -/
theorem op_append (ht : TabOK P T) (hk : KnD n ds a e) {t el bytes : Nat} {z : Value} {s x : Operand} {v : Value} {xs ys : List α} {A2 : Option Addr} {c2 : Nat}
    (hu : find T.und t = some (.slice el)) (hi : find T.inf el = some (E.sz, bytes, z)) (hzs : z.cells.size = E.sz) (hsz : Nat.blt 0 E.sz = true) (hby : Nat.ble bytes 100000 = true)
    (hs : evo e s = some v) (hx : evo e x = some (.slice A2 ys.length c2)) (hown : Ft (Own E el v xs) w o L) (hrd : RdC E A2 ys w) (hlim : xs.length + ys.length ≤ 1000000000)
    (h : ∀ A c w' o', St [L] w o w' o' → Ft (Own E el (.slice A (xs ++ ys).length c) (xs ++ ys)) w' o' L → (xs ++ ys).length ≤ c → K (a.put d (.slice A (xs ++ ys).length c)) w') :
    (Oper.mk d (.call { callee := .builtin .append, args := #[s, x], argTypes := #[t, t] }) ty pos af g).wpIn (WF ρ) 0 P a w K Q := by
  obtain ⟨i, hinf, his, hib, hiz⟩ := ht.i hi
  have hsz' : 0 < E.sz := by simpa [Nat.blt_eq] using hsz
  have hby' : bytes ≤ 100000 := by simpa using hby
  have hund := ht.u hu
  have hev1 : a.eval s = v := hk.ev hs
  have hev2 : a.eval x = .slice A2 ys.length c2 := hk.ev hx
  have hexec : ∀ (v' : Value) (w' : World), (Builtin.append_ #[t, t] ty #[v, .slice A2 ys.length c2]).run P w = .ok v' w' →
      (execOp a.eval (Oper.mk d (.call { callee := .builtin .append, args := #[s, x], argTypes := #[t, t] }) ty pos af g)).run P w = .ok (.value v') w' := by
    intro v' w' hr
    simp [execOp, resolve, invoke, builtin, hev1, hev2, hr]
  have hbytes : ∀ k, k ≤ 1000000000 → k * bytes ≤ 140737488355328 := fun k hk => by
    have : k * bytes ≤ 1000000000 * 100000 := Nat.mul_le_mul hk hby'
    omega
  rcases Nat.eq_zero_or_pos ys.length with h0 | h0
  · obtain rfl : ys = [] := List.eq_nil_of_length_eq_zero h0
    obtain ⟨A, c, rfl, hc, hcm⟩ := hown.now.shape
    have hr : (Builtin.append_ #[t, t] ty #[.slice A xs.length c, .slice A2 0 c2]).run P w = .ok (.slice A xs.length c) w := by
      have e1 : (Builtin.firstCells E.sz 0 (.slice A2 0 c2)).run P w = .ok #[] w := by
        cases A2 <;> simp [Builtin.firstCells, loadCells, loadCellsFrom]
      have hsl := run_underlying' (w := w) hund
      simp [Builtin.append_, hsl, run_sizeOf' ht hi, Builtin.lenOf, hc, e1]
      cases A <;> simp [storeCells]
    refine op_of_run (hexec _ _ hr) ?_
    have := h A c w o (St.refl _ w o) (by simpa using hown) (by simpa using hc)
    simpa using this
  · obtain ⟨ad, rfl, hcc⟩ := hrd h0
    obtain ⟨v', w1, hr, hown', hg, _, hat⟩ := run_append_own_at (P := P) w 0 t ty el i z E.sz bytes hund hinf hiz his hib hzs hsz' v xs.length (xs.flatMap E.f) hown.now ad ys.length c2 (ys.flatMap E.f)
      (flat_len E ys) (RdC.news hrd) (flat_one ys) (by simp only [maxLen]; omega) (hbytes _ hlim) (Nat.zero_le _)
    refine op_of_run (hexec _ _ hr) ?_
    have hOwn : Own E el v' (xs ++ ys) w1 := by
      unfold Own
      rw [List.length_append, List.flatMap_append]
      exact hown'
    obtain ⟨A, c, rfl, hc, _⟩ := hOwn.shape
    have hL := Own.lab hown
    refine h A c w1 (fun b => if b < w.heap.size then o b else L) ⟨hg.os, hg.tape, hg.output, hg.size, fun b hb => by simp [hb], fun b hb hm => hg.block b hb (fun e => hm (by rw [hL b e.symm]; simp))⟩
      (hOwn.ft fun k hk => ?_) hc
    rcases hat with hat | hat
    · rw [hat] at hk
      by_cases hlt : k < w.heap.size
      · simp [hlt, hL k hk]
      · simp [hlt]
    · rw [hat] at hk
      cases hk
      simp

/-- string(b) -/
theorem ask_str (ht : TabOK P T) {sT dT el : Nat} {x : Operand} {A : Option Addr} {c : Nat} {xs : List Int} (hu : find T.und sT = some (.slice el)) (hel : find T.und el = some (.int .u8)) (hd : find T.und dT = some .string)
    (hx : evo e x = some (.slice A xs.length c)) (hr : RdC (encInt .u8) A xs w) (hplain : ∀ ad, A = some ad → ad.spot = none) : AskIs P e (Oper.mk d (.convert sT dT x) ty pos af g) (.string (strOfNums xs)) w := by
  intro ρ hρ
  have hev := hρ _ _ hx
  have : (convert sT dT (.slice A xs.length c)).run P w = .ok (.string (strOfNums xs)) w := by
    cases A with
    | none =>
      have h0 : xs = [] := by
        cases xs with
        | nil => rfl
        | cons y ys => obtain ⟨ad, h, _⟩ := hr (by simp); cases h
      subst h0
      exact run_convert_bytes_nil w sT el (ht.u hu) (ht.u hel) 0 c dT (ht.u hd)
    | some ad =>
      obtain ⟨b, off, sp⟩ := ad
      obtain rfl : sp = none := hplain _ rfl
      refine run_convert_bytes_arg w sT el (ht.u hu) (ht.u hel) b off xs.length c xs rfl (fun i hi => ?_) dT (ht.u hd)
      obtain ⟨ad', ha, hc⟩ := hr (by omega)
      cases ha
      have hcell := hc i xs[i] (List.getElem?_eq_getElem hi) 0 (.int .u8 xs[i]) rfl
      have e1 : (((⟨b, off, none⟩ : Addr).add (i * (encInt .u8).sz)).add 0) = ⟨b, off + i, none⟩ := by
        unfold Addr.add
        by_cases hi0 : i = 0 <;> simp [hi0, encInt]
      rw [e1] at hcell
      rw [hcell, List.getD_eq_getElem?_getD, List.getElem?_eq_getElem hi]
      rfl
  simp [execOp, hev, this]
theorem Own.plain {v : Value} {xs : List α} {t : TypeId} (h : Own E t v xs w) : ∀ A n c, v = .slice A n c → ∀ ad, A = some ad → ad.spot = none := by
  rintro A n c rfl ad rfl
  rcases h.2 with ⟨hv, _⟩ | ⟨g, cap, cur, hv, _⟩
  · cases hv
  · injection hv with hv _ _
    injection hv with hv
    rw [hv]
/-- make([]T, n) -/
theorem op_make (ht : TabOK P T) (hk : KnD n ds a e) {t el bytes : Nat} {z : Value} {x : Operand} {k1 : IntKind} {m : Int} {zx : α} (hu : find T.und t = some (.slice el)) (hi : find T.inf el = some (E.sz, bytes, z)) (hz : z.cells.toList = E.f zx)
    (hby : Nat.ble bytes 100000 = true) (hx : evo e x = some (.int k1 m)) (h0 : 0 ≤ m) (hm : m ≤ 1000000000) (L : Nat)
    (h : ∀ A c w' o', St [] w o w' o' → Ft (Own E el (.slice A (List.replicate m.toNat zx).length c) (List.replicate m.toNat zx)) w' o' L → (List.replicate m.toNat zx).length ≤ c → K (a.put d (.slice A (List.replicate m.toNat zx).length c)) w') :
    (Oper.mk d (.makeSlice t x x) ty pos af g).wpIn (WF ρ) 0 P a w K Q := by
  obtain ⟨i, hinf, his, hib, hiz⟩ := ht.i hi
  have hby' : bytes ≤ 100000 := by simpa using hby
  have hb2 : (i.bytes : Int) * m ≤ 281474976710656 := by
    rw [hib]
    have h1 : (bytes : Int) * m ≤ 100000 * 1000000000 := Int.mul_le_mul (by omega) hm h0 (by omega)
    omega
  have hr := run_make (P := P) (w := w) t el i z (ht.u hu) hinf hiz k1 k1 m m h0 (Int.le_refl _) hb2 (by omega)
  have hcells : (madeCells z.cells (m.toNat * i.size)).toList = (List.replicate m.toNat zx).flatMap E.f := by
    have hzs : z.cells.size = E.sz := by rw [← Array.length_toList, hz, E.len]
    apply List.ext_getElem?
    intro j
    rw [his]
    by_cases hj : j < m.toNat * E.sz
    · have hpos : 0 < E.sz := by
        rcases Nat.eq_zero_or_pos E.sz with q | q
        · rw [q] at hj; omega
        · exact q
      have hq : j / E.sz < m.toNat := (Nat.div_lt_iff_lt_mul hpos).2 hj
      have hmod : j % E.sz < E.sz := Nat.mod_lt _ hpos
      have hx2 : (List.replicate m.toNat zx)[j / E.sz]? = some zx := by simp [hq]
      have hv2 : (E.f zx)[j % E.sz]? = some ((E.f zx)[j % E.sz]'(by rw [E.len]; exact hmod)) := List.getElem?_eq_getElem _
      have := flat_at E _ _ _ hx2 _ _ hv2
      rw [show j / E.sz * E.sz + j % E.sz = j by rw [Nat.mul_comm]; exact Nat.div_add_mod j E.sz] at this
      rw [this]
      have hz2 : z.cells[j % E.sz]? = (E.f zx)[j % E.sz]? := by rw [← hz]; simp
      simp [madeCells, hj, hzs]
      rw [getElem!_pos z.cells (j % E.sz) (by omega)]
      exact Option.some.inj ((Array.getElem?_eq_getElem (by omega)).symm.trans (hz2.trans hv2))
    · rw [List.getElem?_eq_none (by simp [madeCells]; omega), List.getElem?_eq_none (by rw [flat_len]; simp; omega)]
  have hcells' : madeCells z.cells (m.toNat * i.size) = ((List.replicate m.toNat zx).flatMap E.f).toArray := by rw [← hcells]
  have hOwn : Own E el (.slice (some ⟨w.heap.size, 0, none⟩) (List.replicate m.toNat zx).length (List.replicate m.toNat zx).length) (List.replicate m.toNat zx) (w.alloc (.cells ((List.replicate m.toNat zx).flatMap E.f).toArray el)) :=
    Own.of_box (heap_alloc_new w _) rfl (by simp; omega)
  refine op_of_run (v := .slice (some ⟨w.heap.size, 0, none⟩) m.toNat m.toNat) (w' := w.alloc (.cells ((List.replicate m.toNat zx).flatMap E.f).toArray el)) ?_ ?_
  · rw [hcells'] at hr
    simp [execOp, hk.ev hx, hr]
  · have := h (some ⟨w.heap.size, 0, none⟩) (List.replicate m.toNat zx).length _ _ (St.alloc [] w o _ L) (hOwn.ft fun k hk => by simp [Value.ownBlock] at hk; subst hk; simp [newLab]) (Nat.le_refl _)
    simpa using this
end
end Go.Proofs.XC

set_option linter.unusedSimpArgs false
set_option linter.unusedVariables false
namespace Go.Proofs.XC
open Go

/-! ### In a round, too -/
section
variable {ρ : Option Nat} {ds : List Deferred} {P : Program} {ops : Array Oper} {Q : Exit → Act → World → Prop} {S : World → Prop}
def noDefer (ops : Array Oper) : Bool := ops.toList.all fun o => match o.op with | .defer _ => false | _ => true
theorem noDefer_spec {ops : Array Oper} (h : noDefer ops = true) {j : Nat} {o : Oper} (hj : ops[j]? = some o) : ∀ c, o.op ≠ .defer c := by
  intro c hc
  have := List.all_eq_true.1 h o (by rw [Array.mem_toList_iff]; exact Array.mem_of_getElem? hj)
  simp [hc] at this
theorem YieldsIf.wpOpW {i : Nat} {o : Oper} {v : Value} {a : Act} (hi : ops[i]? = some o) (hy : YieldsIf P ops S o v a)
    {K : Act → World → Prop} {w : World} (hS : S w) (h : K (a.put o.dst v) w) : wpOpIn (WF ρ) 0 P ops Q i K a w := by
  unfold Go.wpOpIn
  simp only [hi]
  rcases hy with ⟨hw, hv⟩ | ⟨hw, rfl⟩
  · simp only [hw, if_true]; exact wf_value (hv w hS) h
  · simp only [hw, Bool.false_eq_true, if_false]; exact ⟨fun _ _ => trivial, h⟩
theorem wpOpIn_putIf {j : Nat} {oi oj : Oper} {v : Value} (hj : ops[j]? = some oj) (hnd : ∀ c, oj.op ≠ .defer c) (hap : oi.apart ops oj = true)
    (hsi : ∀ cs b, oi.op ≠ .select cs b) (hsj : ∀ cs b, oj.op ≠ .select cs b)
    (hQ : ∀ c a w, Q (.panic c) (a.put oi.dst v) w → Q (.panic c) a w) {K : Act → World → Prop} {a : Act} {w : World}
    (hy : YieldsIf P ops S oi v a) (h : wpOpIn (WF ρ) 0 P ops Q j K (a.put oi.dst v) w) :
    wpOpIn (WF ρ) 0 P ops Q j (fun a' w' => YieldsIf P ops S oi v a' ∧ K (a'.put oi.dst v) w') a w := by
  obtain ⟨h1, h2, h3⟩ := Oper.apart_spec hap
  have keep : ∀ (a : Act), YieldsIf P ops S oi v a → ∀ u, YieldsIf P ops S oi v (a.put oj.dst u) := fun a hy u =>
    hy.of_same (execOp_put oi hsi a oj.dst u h3) (wanted_put oi a oj.dst u h3)
  have keepD : ∀ d, YieldsIf P ops S oi v { a with defers := d :: a.defers } := fun d => hy.of_same rfl rfl
  unfold wpOpIn at *
  simp only [hj] at *
  rw [wanted_put oj a oi.dst v h1] at h
  split
  · rename_i hw
    simp only [hw, if_true] at h
    unfold Oper.wpIn at *
    refine ⟨fun _ _ => trivial, ?_⟩
    have h := h.2
    rw [Oper.semAt_eq _ _ _ hnd, execOp_put oj hsj a oi.dst v h1] at h
    rw [Oper.semAt_eq _ _ _ hnd]
    generalize (execOp a.eval oj).run P w = r at *
    cases r with
    | ok x w' =>
      cases x <;> simp only [Oper.uponIn] at h ⊢
      case value u => exact ⟨keep a hy u, by rw [← Act.put_comm a v u h2]; exact h⟩
      case skip => exact ⟨keep a hy _, by rw [← Act.put_comm a v undef h2]; exact h⟩
      case defer d =>
        refine ⟨keep _ (keepD d) _, ?_⟩
        rw [← Act.put_comm _ v undef h2, ← Act.put_defers]
        exact h
      case enter f args =>
        refine ⟨h.1, CallsIn.mono h.2 fun e w'' he => ?_⟩
        cases e with
        | returned u => exact ⟨keep a hy u, by rw [← Act.put_comm a v u h2]; exact he⟩
        | panicked c => exact hQ _ _ _ he
        | outgrown => exact he
      case row row args => exact ⟨h.1, RowsIn.mono h.2 fun u w'' he => ⟨keep a hy u, by rw [← Act.put_comm a v u h2]; exact he⟩⟩
      case round l f tmps assign body =>
        refine ⟨h.1, RoundIn.mono h.2 fun e w'' he => ?_⟩
        cases e with
        | returned u => exact ⟨keep a hy u, by rw [← Act.put_comm a v u h2]; exact he⟩
        | panicked c => exact hQ _ _ _ he
        | outgrown => exact he
    | halt x w' =>
      cases x <;> simp only [Oper.uponIn] at h ⊢
      case panic u => exact hQ _ _ _ h
  · rename_i hw
    simp only [hw] at h
    exact ⟨fun _ _ => trivial, keep a hy _, by rw [← Act.put_comm a v undef h2]; exact h.2⟩
end

/-! ### Regions that draw their order: S holds till all have come up -/
section
variable {ρ : Option Nat} {ds : List Deferred} {P : Program} {T : Tab} {n : Nat} {ops : Array Oper} {Q : Exit → Act → World → Prop} {S : World → Prop}
/-- This operation comes up last. -/
def lastB (ops : Array Oper) (j : Nat) : Bool :=
  match ops[j]? with
  | some oj => (List.range ops.size).all fun m => Nat.beq m j || oj.after.any fun e => Region.binds .any e && Nat.beq e.on m
  | none => false
theorem lastB_spec {j i : Nat} {oj : Oper} (hj : ops[j]? = some oj) (h : lastB ops j = true) (hi : i < ops.size) (hij : j ≠ i) : ∃ e ∈ oj.after, Region.binds .any e = true ∧ e.on = i := by
  unfold lastB at h
  simp only [hj] at h
  have h1 := List.all_eq_true.1 h i (List.mem_range.2 hi)
  simp only [Bool.or_eq_true] at h1
  rcases h1 with h1 | h1
  · exact absurd (Nat.eq_of_beq_eq_true h1).symm hij
  · obtain ⟨e, he, hb⟩ := Array.any_eq_true'.1 h1
    simp only [Bool.and_eq_true] at hb
    exact ⟨e, he, hb.1, Nat.eq_of_beq_eq_true hb.2⟩
def wpD (ρ : Option Nat) (P : Program) (ops : Array Oper) (Q : Exit → Act → World → Prop) (S : World → Prop) : Nat → Array Bool → Act → World → Prop
  | 0, ls, a, w => Region.ready .any ops ls = [] ∧ Q .normal a w
  | k + 1, ls, a, w => (Region.ready .any ops ls = [] → Q .normal a w) ∧
    ∀ i ∈ Region.ready .any ops ls, wpOpIn (WF ρ) 0 P ops Q i (fun a' w' => (lastB ops i = true ∨ S w') ∧ wpD ρ P ops Q S k (ls.setIfInBounds i true) a' w') a w
theorem wpD_any : ∀ (k : Nat) (ls : Array Bool) (a : Act) (w : World), wpD ρ P ops Q S k ls a w → wpAnyIn (WF ρ) 0 P .any ops Q k ls a w
  | 0, _, _, _, h => h
  | k + 1, _, _, _, h => ⟨h.1, fun i hi => wpOpIn_mono (fun a' w' h' => wpD_any k _ a' w' h'.2) (h.2 i hi)⟩
theorem wpD_begin {id : Nat} {a : Act} {w : World} (hm : P.follows .mixedOrders = true) (h : wpD ρ P ops Q S ops.size (Array.replicate ops.size false) a { w with drawn := w.drawn + 1 }) : (Code.region id ops true).wpIn (WF ρ) 0 P Q a w :=
  wpIn_region_any hm (wpD_any _ _ _ _ h)
theorem wpD_first {i : Nat} {oi : Oper} {v : Value} (hi : ops[i]? = some oi) (hsel : ∀ (j : Nat) (o : Oper) cs b, ops[j]? = some o → o.op ≠ .select cs b) (hnd : noDefer ops = true) (hQ : ∀ c a w, ¬ Q (.panic c) a w) :
    ∀ (k : Nat) (ls : Array Bool) (a : Act) (w : World),
      (∀ j oj, ops[j]? = some oj → j ≠ i → ls.getD j true = false → (∀ e ∈ oj.after, Region.binds .any e = true → e.on ≠ i) → oi.apart ops oj = true) →
      i ∈ Region.ready .any ops ls → YieldsIf P ops S oi v a → S w → wpD ρ P ops Q S k (ls.setIfInBounds i true) (a.put oi.dst v) w → wpD ρ P ops Q S (k + 1) ls a w := by
  intro k
  have mine : ∀ (k : Nat) (ls : Array Bool) (a : Act) (w : World), YieldsIf P ops S oi v a → S w → wpD ρ P ops Q S k (ls.setIfInBounds i true) (a.put oi.dst v) w →
      wpOpIn (WF ρ) 0 P ops Q i (fun a' w' => (lastB ops i = true ∨ S w') ∧ wpD ρ P ops Q S k (ls.setIfInBounds i true) a' w') a w :=
    fun k ls a w hy hS h => YieldsIf.wpOpW hi hy hS ⟨.inr hS, h⟩
  induction k with
  | zero =>
    intro ls a w _ hr hy hS h
    refine ⟨fun h0 => (by rw [h0] at hr; cases hr), fun j hj => ?_⟩
    by_cases hji : j = i
    · subst hji; exact mine 0 ls a w hy hS h
    · have h2 := ready_mono hj hji
      rw [h.1] at h2
      cases h2
  | succ k ih =>
    intro ls a w hfree hr hy hS h
    refine ⟨fun h0 => (by rw [h0] at hr; cases hr), fun j hj => ?_⟩
    by_cases hji : j = i
    · subst hji; exact mine (k + 1) ls a w hy hS h
    · have h1 := h.2 j (ready_mono hj hji)
      obtain ⟨hjun, oj, hoj, hall⟩ := mem_ready.1 hj
      have hnot : ∀ e ∈ oj.after, Region.binds .any e = true → e.on ≠ i := fun e he hb heq => by
        have h1 := hall e he hb
        have h0 := (mem_ready.1 hr).1
        rw [heq] at h1
        rcases Nat.lt_or_ge i ls.size with h' | h'
        · simp [h'] at h0 h1; rw [h0] at h1; cases h1
        · simp [Array.getElem?_eq_none h'] at h1
      have h2 := wpOpIn_putIf hoj (noDefer_spec hnd hoj) (hfree j oj hoj hji hjun hnot) (fun cs b => hsel i oi cs b hi) (fun cs b => hsel j oj cs b hoj) (fun c a w hq => absurd hq (hQ c _ w)) hy h1
      have hfree' : ∀ k ok, ops[k]? = some ok → k ≠ i → (ls.setIfInBounds j true).getD k true = false → (∀ e ∈ ok.after, Region.binds .any e = true → e.on ≠ i) → oi.apart ops ok = true := fun k ok hk hki hun hno => by
        refine hfree k ok hk hki ?_ hno
        by_cases hjk : j = k
        · subst hjk; exact hjun
        · rw [getD_set_ne true hjk] at hun; exact hun
      have hri : i ∈ Region.ready .any ops (ls.setIfInBounds j true) := ready_mono hr (Ne.symm hji)
      refine wpOpIn_mono (fun a' w' h3 => ?_) h2
      have hS' : S w' := by
        rcases h3.2.1 with h0 | h0
        · obtain ⟨e, he, hb, hei⟩ := lastB_spec hoj h0 (Array.getElem?_eq_some_iff.1 hi).1 hji
          exact absurd hei (hnot e he hb)
        · exact h0
      refine ⟨.inr hS', ih (ls.setIfInBounds j true) a' w' hfree' hri h3.1 hS' ?_⟩
      rw [Array.setIfInBounds_comm _ _ hji]
      exact h3.2.2

/-! ### Many quiet operations at once -/
def takeB (ops : Array Oper) : List Nat → Array Bool → Option (Array Bool)
  | [], ls => some ls
  | i :: is, ls => bif Region.free .any ops ls i && (Region.ready .any ops ls).contains i then takeB ops is (ls.setIfInBounds i true) else none
def runI (P : Program) (T : Tab) (n : Nat) (ops : List Oper) : List Nat → Env → List Value → List Cond → Option (Env × List Cond)
  | [], e, _, cs => some (e, cs)
  | i :: is, e, lv, cs => match ops[i]? with
    | some o => match guardP ops e o with
      | some true => match quietP P T e o lv with
        | some (v, c, lv') => match putE n o.dst v e with
          | some e' => runI P T n ops is e' lv' (cs ++ c)
          | none => none
        | none => none
      | some false => match putE n o.dst undef e with
        | some e' => runI P T n ops is e' lv cs
        | none => none
      | none => none
    | none => none
theorem wpD_takes (ht : TabOK P T) {ol : List Oper} (hs : (Region.noSelect ol.toArray && noDefer ol.toArray) = true) (hQ : ∀ c a w, ¬ Q (.panic c) a w) : ∀ (is : List Nat) (k : Nat) (ls ls' : Array Bool) (a : Act) (w : World) (e e' : Env) (lv : List Value) (cs0 cs : List Cond),
    KnD n ds a e → takeB ol.toArray is ls = some ls' → runI P T n ol is e lv cs0 = some (e', cs) → S w → ∃ cs1, cs = cs0 ++ cs1 ∧
      ((∀ w, S w → ConjW w cs1) → (∀ a', KnD n ds a' e' → wpD ρ P ol.toArray Q S k ls' a' w) → wpD ρ P ol.toArray Q S (k + is.length) ls a w)
  | [], k, ls, ls', a, w, e, e', lv, cs0, cs, hk, hb, hr, hS => by
    simp only [takeB, Option.some.injEq] at hb
    simp only [runI, Option.some.injEq, Prod.mk.injEq] at hr
    obtain ⟨rfl, rfl⟩ := hr
    subst hb
    exact ⟨[], by simp, fun _ h => h a hk⟩
  | i :: is, k, ls, ls', a, w, e, e', lv, cs0, cs, hk, hb, hr, hS => by
    simp only [takeB] at hb
    cases hfb : (Region.free .any ol.toArray ls i && (Region.ready .any ol.toArray ls).contains i) with
    | false => rw [hfb] at hb; simp at hb
    | true =>
      rw [hfb] at hb
      simp only [cond_true] at hb
      simp only [Bool.and_eq_true] at hfb
      simp only [runI] at hr
      split at hr
      · rename_i o ho
        have ho' : ol.toArray[i]? = some o := by simpa using ho
        have hrd : i ∈ Region.ready .any ol.toArray ls := by simpa using hfb.2
        have hfree := fun j oj hj hne hun hno => Region.free_spec (md := .any) ho' hfb.1 j oj hj hne hun hno
        split at hr
        · rename_i hg
          split at hr
          · rename_i v c lv' hq
            split at hr
            · rename_i e1 hp
              obtain ⟨cs1, rfl, h1⟩ := wpD_takes ht hs hQ is k _ ls' (a.put o.dst v) w e1 e' lv' (cs0 ++ c) cs (hk.putE hp) hb hr hS
              refine ⟨c ++ cs1, by simp, fun hc h => ?_⟩
              exact wpD_first ho' (Region.noSelect_spec (Bool.and_eq_true_iff.1 hs).1) (Bool.and_eq_true_iff.1 hs).2 hQ (k + is.length) ls a w hfree hrd (.inl ⟨guardP_sound hk hg, fun w hw => quietP_sound ht hk hq (ConjW.append (hc w hw)).1⟩) hS (h1 (fun w hw => (ConjW.append (hc w hw)).2) h)
            · simp at hr
          · simp at hr
        · rename_i hg
          split at hr
          · rename_i e1 hp
            obtain ⟨cs1, rfl, h1⟩ := wpD_takes ht hs hQ is k _ ls' (a.put o.dst undef) w e1 e' lv cs0 cs (hk.putE hp) hb hr hS
            refine ⟨cs1, rfl, fun hc h => ?_⟩
            exact wpD_first ho' (Region.noSelect_spec (Bool.and_eq_true_iff.1 hs).1) (Bool.and_eq_true_iff.1 hs).2 hQ (k + is.length) ls a w hfree hrd (.inr ⟨guardP_sound hk hg, rfl⟩) hS (h1 hc h)
          · simp at hr
        · simp at hr
      · simp at hr
def runIK (P : Program) (T : Tab) (n : Nat) (ops : List Oper) (is : List Nat) (e : Env) (lv : List Value) (ks : List Nat) : Option (Env × List Cond) :=
  match runI P T n ops is e lv [] with
  | some (e', cs) => match pick e' ks with
    | some r => some (r, cs)
    | none => none
  | none => none
/-- Quiet operations of a region that draws, in an order of ours. -/
theorem xd_take (ht : TabOK P T) {a : Act} {w : World} {e e' : Env} {ol : List Oper} {k m : Nat} {is ks : List Nat} {ls ls' : Array Bool} {lv : List Value} {cs : List Cond} (hk : KnD n ds a e) (hb : takeB ol.toArray is ls = some ls') (hm : k + is.length = m)
    (hr : runIK P T n ol is e lv ks = some (e', cs)) (hs : (Region.noSelect ol.toArray && noDefer ol.toArray) = true) (hQ : ∀ c a w, ¬ Q (.panic c) a w) (hS : S w) (hc : ∀ w, S w → ConjW w cs)
    (h : ∀ a', KnD n ds a' e' → wpD ρ P ol.toArray Q S k ls' a' w) : wpD ρ P ol.toArray Q S m ls a w := by
  subst hm
  unfold runIK at hr
  split at hr
  · rename_i e1 cs1 hr1
    split at hr <;> simp at hr
    rename_i r hp
    obtain ⟨rfl, rfl⟩ := hr
    obtain ⟨cs2, he, h1⟩ := wpD_takes ht hs hQ is k ls ls' a w e e1 lv [] cs1 hk hb hr1 hS
    simp only [List.nil_append] at he
    subst he
    exact h1 hc fun a' hk' => h a' (hk'.sub (pick_sub hp))
  · simp at hr
/-- The one that may come up now. -/
theorem xd_op {a : Act} {w : World} {e : Env} {ol : List Oper} {k i : Nat} {ls : Array Bool} {o : Oper} (hk : KnD n ds a e) (hr : Region.ready .any ol.toArray ls = [i]) (ho : ol[i]? = some o) (hg : guardP ol e o = some true)
    (h : o.wpIn (WF ρ) 0 P a w (fun a' w' => (lastB ol.toArray i = true ∨ S w') ∧ wpD ρ P ol.toArray Q S k (ls.setIfInBounds i true) a' w') Q) : wpD ρ P ol.toArray Q S (k + 1) ls a w := by
  refine ⟨fun h0 => (by rw [hr] at h0; cases h0), fun j hj => ?_⟩
  rw [hr, List.mem_singleton] at hj
  subst hj
  unfold wpOpIn
  have ho' : ol.toArray[j]? = some o := by simpa using ho
  simp only [ho', guardP_sound hk hg, if_true]
  exact h
theorem xd_done {a : Act} {w : World} {ol : List Oper} {k : Nat} {ls : Array Bool} (hr : Region.ready .any ol.toArray ls = []) (h : Q .normal a w) : wpD ρ P ol.toArray Q S k ls a w := by
  cases k with
  | zero => exact ⟨hr, h⟩
  | succ k => exact ⟨fun _ => h, by rw [hr]; simp⟩
theorem St.drew (M : List Nat) (w : World) (o : Nat → Nat) : St M w o w.drew o := ⟨rfl, rfl, rfl, Nat.le_refl _, fun _ _ _ => rfl, fun _ _ _ => rfl⟩
theorem xd_begin {id : Nat} {a : Act} {w : World} {o : Nat → Nat} {ol : List Oper} {m : Nat} {ls : Array Bool} (S : World → Prop) (hm : P.follows .mixedOrders = true) (hn : ol.toArray.size = m) (hls : Array.replicate m false = ls)
    (h : ∀ w', St [] w o w' o → wpD ρ P ol.toArray Q S m ls a w') : (Code.region id ol.toArray true).wpIn (WF ρ) 0 P Q a w := by
  subst hn; subst hls
  exact wpD_begin hm (h _ (St.drew [] w o))
/-- A stretch that cannot panic. -/
def NP (Q : Exit → Act → World → Prop) : Prop := ∀ c a w, ¬ Q (.panic c) a w
theorem np_then {K : Act → World → Prop} (h : NP Q) : NP (Exit.then K Q) := h
theorem np_blk {i : Nat} (h : NP Q) : NP (Exit.inBlock i Q) := h
theorem np_body {fn : Func} {Φ : Value → World → Prop} : NP (bodyPost P fn (Ret Φ)) := by
  rintro c a w ⟨_, v, hv, _⟩
  cases hv
end
end Go.Proofs.XC

set_option linter.unusedSimpArgs false
set_option linter.unusedVariables false
namespace Go.Proofs.XC
open Go

section
variable {ρ : Option Nat} {ds : List Deferred} {P : Program} {T : Tab} {n : Nat} {a : Act} {e : Env} {w w' W W2 : World} {o o' of o2 o1 : Nat → Nat} {L l : Nat} {M N : List Nat} {Q : Exit → Act → World → Prop} {K : Act → World → Prop}
  {d : Option Tmp} {ty : TypeId} {pos : String} {af : Array Edge} {g : Option (Nat × Bool)} {α : Type} {E : Enc α}

theorem ifS {p : Prop} [Decidable p] {β : Type} {x : Option β} {r : β} (h : (if p then x else none) = some r) : p ∧ x = some r := by
  split at h
  · exact ⟨‹_›, h⟩
  · cases h
theorem bifT {β : Type} {x y : Option β} {r : β} (h : (bif true then x else y) = some r) : x = some r := h
theorem bifF {β : Type} {x y : Option β} {r : β} (h : (bif false then x else y) = some r) : y = some r := h
theorem bindS {β γ : Type} {x : Option β} {f : β → Option γ} {r : γ} (h : x.bind f = some r) : ∃ t, x = some t ∧ f t = some r := Option.bind_eq_some_iff.1 h
theorem KnD.pick (h : KnD n ds a e) {ks : List Nat} {e' : Env} (hp : XC.pick e ks = some e') : KnD n ds a e' := h.sub (pick_sub hp)

/-! ### Labels at the begin and at the end -/
theorem St.start (w : World) (o : Nat → Nat) : ∃ oi : Nat → Nat, St [] w (fun _ => 0) w oi ∧ ∀ (P : World → Prop) (L : Nat), Ft P w o L → Ft P w oi 0 :=
  ⟨fun _ => 0, St.refl _ _ _, fun P L h => h.mono fun _ _ _ => rfl⟩
theorem St.loc0 (h : St [] w (fun _ => 0) W o) (k : St N W o W2 o2) (h0 : 0 ∉ N) : St [] w (fun _ => 0) W2 o2 :=
  ⟨k.os.trans h.os, k.tape.trans h.tape, k.output.trans h.output, Nat.le_trans h.size k.size, fun b hb _ => (k.lab b (Nat.lt_of_lt_of_le hb h.size) (by rw [h.lab b hb (by simp)]; exact h0)).trans (h.lab b hb (by simp)),
   fun b hb _ => (k.kept b (Nat.lt_of_lt_of_le hb h.size) (by rw [h.lab b hb (by simp)]; exact h0)).trans (h.kept b hb (by simp))⟩
theorem St.close0 (h : St [] w (fun _ => 0) W of) (o : Nat → Nat) (ρ : Nat → Nat) : St [] w o W (fun b => if b < w.heap.size then o b else ρ (of b)) :=
  ⟨h.os, h.tape, h.output, h.size, fun b hb _ => by simp [hb], fun b hb _ => h.kept b hb (by simp)⟩
theorem St.close_ft {P : World → Prop} (h : St [] w (fun _ => 0) W of) (f : Ft P W of l) (hl : l ≠ 0) {o ρ : Nat → Nat} (hρ : ρ l = L) : Ft P W (fun b => if b < w.heap.size then o b else ρ (of b)) L :=
  f.mono fun b hb _ => by
    by_cases hlt : b < w.heap.size
    · exact absurd ((h.lab b hlt (by simp)).symm.trans hb).symm hl
    · simp [hlt, hb, hρ]
theorem St.relab0 (h : St [] w (fun _ => 0) W o) (ρ : Nat → Nat) (h0 : ρ 0 = 0) : St [] w (fun _ => 0) W (fun b => ρ (o b)) :=
  ⟨h.os, h.tape, h.output, h.size, fun b hb hm => by rw [h.lab b hb hm]; exact h0, h.kept⟩
theorem Ft.relab {P : World → Prop} (h : Ft P W o l) (ρ : Nat → Nat) (hρ : ρ l = L) : Ft P W (fun b => ρ (o b)) L := h.mono fun b hb _ => by rw [hb]; exact hρ

/-! ### Loads of boxes and elements -/
theorem load_box (ht : TabOK P T) {t s bb b t' k : Nat} {z : Value} {cs cs' : List Value} (ha : aggT T t = some true) (hi : find T.inf t = some (s, bb, z)) (hb : Bx b t' cs w) (hc : (cs.drop k).take s = cs') (hl : cs'.length = s) :
    LoadIs P t ((⟨b, 0, none⟩ : Addr).add k) (.agg cs'.toArray) w :=
  loadN ht ha hi hl fun j hj => by rw [Bx.cell2 hb, ← hc, List.getElem?_take, if_pos hj, List.getElem?_drop]
theorem load_elem (ht : TabOK P T) {t bb : Nat} {z : Value} {ad : Addr} {xs : List α} {dx : α} {i : Int} (ha : aggT T t = some true) (hi : find T.inf t = some (E.sz, bb, z)) (h : RdC E (some ad) xs w) (hb : 0 ≤ i ∧ i < (xs.length : Int)) :
    LoadIs P t (ad.add (i.toNat * E.sz)) (.agg (E.f (rdD dx xs i)).toArray) w :=
  loadN ht ha hi (E.len _) fun j hj => by
    obtain ⟨v, hv⟩ : ∃ v, (E.f (rdD dx xs i))[j]? = some v := ⟨_, List.getElem?_eq_getElem (by rw [E.len]; exact hj)⟩
    rw [hv]
    exact RdC.at h hb hv

/-! ### Results -/
def ResAll (P : Program) (e : Env) (w : World) : List ResultVar → List Value → Prop
  | [], [] => True
  | .tmp t :: rs, v :: vs => look e t = some v ∧ ResAll P e w rs vs
  | .cell t ty :: rs, v :: vs => (∃ ad, look e t = some (.pointer (some ad)) ∧ LoadIs P ty ad v w) ∧ ResAll P e w rs vs
  | _, _ => False
def tupOf : List Value → Value
  | [v] => v
  | vs => .tuple vs.toArray
def AllRun {β γ : Type} (P : Program) (w : World) (f : β → Sem γ) : List β → List γ → Prop
  | [], [] => True
  | x :: xs, v :: vs => (f x).run P w = .ok v w ∧ AllRun P w f xs vs
  | _, _ => False
theorem run_mapM_all {β γ : Type} (f : β → Sem γ) : ∀ (l : List β) (vs : List γ), AllRun P w f l vs → (l.mapM f).run P w = .ok vs w
  | [], [], _ => by simp
  | x :: xs, v :: vs, h => by
    have ih := run_mapM_all f xs vs h.2
    rw [List.mapM_cons, Sem.run_bind, h.1]
    simp only [Result.andThen_ok, Sem.run_bind, ih, Sem.run_pure]
  | [], _ :: _, h => h.elim
  | _ :: _, [], h => h.elim
theorem x_retG {fn : Func} {rs : List ResultVar} {vs : List Value} {Φ : Value → World → Prop} (hk : KnD n [] a e) (hr : fn.results = rs.toArray) (h : ResAll P e w rs vs) (hΦ : Φ (tupOf vs) w) : bodyPost P fn (Ret Φ) .ret a w := by
  refine x_ret hk (v := tupOf vs) ?_ hΦ
  unfold results
  rw [hr, List.mapM_toArray, Sem.run_bind, Sem.run_map, run_mapM_all _ rs vs ?_]
  · simp only [Result.andThen_ok, Sem.run_pure]
    congr 1
    cases vs with
    | nil => rfl
    | cons v vs => cases vs <;> simp [tupOf]
  · clear hr hΦ
    induction rs generalizing vs with
    | nil => cases vs with
      | nil => trivial
      | cons v vs => exact h.elim
    | cons r rs ih => cases vs with
      | nil => cases r <;> exact h.elim
      | cons v vs =>
        cases r with
        | tmp t => exact ⟨by simp [Array.getD_eq_getD_getElem?, hk.at_ _ _ h.1], ih h.2⟩
        | cell t ty =>
          obtain ⟨⟨ad, h1, h2⟩, h3⟩ := h
          unfold LoadIs at h2
          exact ⟨by simp [Array.getD_eq_getD_getElem?, hk.at_ _ _ h1, asAddr, h2], ih h3⟩
theorem x_endG {fn : Func} {rs : List ResultVar} {vs : List Value} {Φ : Value → World → Prop} (hk : KnD n [] a e) (hr : fn.results = rs.toArray) (h : ResAll P e w rs vs) (hΦ : Φ (tupOf vs) w) : bodyPost P fn (Ret Φ) .normal a w :=
  x_retG hk hr h hΦ

/-! ### Cuts of rows -/
theorem add_add (a : Addr) (i j : Nat) : (a.add i).add j = a.add (i + j) := by
  unfold Addr.add
  by_cases hi : i = 0 <;> by_cases hj : j = 0 <;> simp [hi, hj]
  omega
theorem RdC.cut {A : Option Addr} {c lo hi : Nat} {xs : List α} (h : RdC E A xs w) (hc : xs.length ≤ c) (h1 : lo ≤ hi) (h2 : hi ≤ xs.length) :
    RdC E (if c = lo then A else A.map (·.add (lo * E.sz))) ((xs.take hi).drop lo) w := by
  intro h0
  simp only [List.length_drop, List.length_take, Nat.min_eq_left h2] at h0
  obtain ⟨ad, rfl, hcell⟩ := h (by omega)
  rw [if_neg (by omega)]
  refine ⟨_, rfl, fun i x hx j v hv => ?_⟩
  rw [List.getElem?_drop, List.getElem?_take] at hx
  split at hx
  · have := hcell _ x hx j v hv
    rw [add_add] at this ⊢
    rw [add_add]
    rw [← this]
    congr 2
    rw [Nat.add_mul]; omega
  · cases hx
theorem run_cut {t el s b : Nat} {z : Value} (ht : TabOK P T) (hu : find T.und t = some (.slice el)) (hi : find T.inf el = some (s, b, z)) {A : Option Addr} {len cap l h : Nat} {lo hi' : Option Value} {cs : List Prop}
    (hc : cutP len cap lo hi' = some (l, h, cs)) (hp : Conj cs) : (Instr.sliceAt t (.slice A len cap) lo hi' none).run P w = .ok (.slice (if cap = l then A else A.map (·.add (l * s))) (h - l) (cap - l)) w := by
  have hr := run_underlying' (w := w) (ht.u hu)
  simp [Instr.sliceAt, Instr.slice, hr, run_cutP hc hp, run_sizeOf' ht hi]
theorem ask_cut (ht : TabOK P T) {t el bb : Nat} {z : Value} (hu : find T.und t = some (.slice el)) (hi : find T.inf el = some (E.sz, bb, z)) {A : Option Addr} {c : Nat} {xs : List α} (f : Ft (RdC E A xs) w o L) (hc : xs.length ≤ c) (lo hi' : Option Value) {l h : Nat} {cs : List Prop}
    (hcut : cutP xs.length c lo hi' = some (l, h, cs)) (hp : Conj cs) (h1 : l ≤ h) (h2 : h ≤ xs.length) :
    ∃ A' c', (∀ {e : Env} {x : Operand} {ol oh : Option Operand} {d ty pos af g}, evo e x = some (.slice A xs.length c) → optV (evo e) ol = some lo → optV (evo e) oh = some hi' → ∀ W, AskIs P e (Oper.mk d (.slice t x ol oh none) ty pos af g) (.slice A' ((xs.take h).drop l).length c') W) ∧
      Ft (RdC E A' ((xs.take h).drop l)) w o L ∧ ((xs.take h).drop l).length ≤ c' := by
  refine ⟨_, c - l, fun {e x ol oh d ty pos af g} hx hlo hhi W ρ hρ => ?_, f.imp fun W hW => RdC.cut hW hc h1 h2, by simp; omega⟩
  have e1 : ∀ (y : Option Operand) (r : Option Value), optV (evo e) y = some r → y.map ρ = r := by
    intro y r hy
    cases y with
    | none => simp only [optV, Option.some.injEq] at hy; subst hy; rfl
    | some y =>
      simp only [optV, Option.map_eq_some_iff] at hy
      obtain ⟨q, hq, rfl⟩ := hy
      simp [hρ _ _ hq]
  have hr := run_cut (P := P) (w := W) ht hu hi (A := A) hcut hp
  have hl : ((xs.take h).drop l).length = h - l := by simp [Nat.min_eq_left h2]
  simp [execOp, hρ _ _ hx, e1 _ _ hlo, e1 _ _ hhi, hr, hl]
/-- The first ones of an own row: own still. -/
theorem Own.take {t : TypeId} {A : Option Addr} {k c h : Nat} {xs : List α} (hO : Own E t (.slice A k c) xs w) (h2 : h ≤ xs.length) : Own E t (.slice A h c) (xs.take h) w := by
  obtain ⟨h0, hr⟩ := hO
  have e : (xs.take h).flatMap E.f = (xs.flatMap E.f).take (h * E.sz) := by
    clear hr h0
    induction xs generalizing h with
    | nil => simp
    | cons x xs ih =>
      cases h with
      | zero => simp
      | succ h =>
        simp only [List.take_succ_cons, List.flatMap_cons]
        have e1 : (h + 1) * E.sz = (E.f x).length + h * E.sz := by rw [E.len, Nat.add_mul]; omega
        rw [ih (by simpa using h2), e1, List.take_length_add_append]
  have hl : (xs.take h).length = h := by simp [h2]
  refine ⟨flat_len E _, ?_⟩
  rw [hl]
  rcases hr with ⟨hv, hz⟩ | ⟨g, cap, cur, hv, hb, hg, h3, h4, h5, h6⟩
  · injection hv with hA hk hc
    subst hA; subst hc
    have : h = 0 := by omega
    exact .inl ⟨by rw [this], this⟩
  · injection hv with hA hk hc
    subst hA; subst hc
    refine .inr ⟨g, c, cur, rfl, hb, hg, by omega, h4, h5, ?_⟩
    rw [e, ← h6, List.take_take]
    congr 1
    exact (Nat.min_eq_left (Nat.mul_le_mul_right _ h2)).symm
theorem ask_take (ht : TabOK P T) {t el bb : Nat} {z : Value} (hu : find T.und t = some (.slice el)) (hi : find T.inf el = some (E.sz, bb, z)) {A : Option Addr} {c : Nat} {xs : List α} (f : Ft (Own E el (.slice A xs.length c) xs) w o L) (hc : xs.length ≤ c) {k : IntKind} (m : Int)
    (h0 : 0 ≤ m) (h2 : m ≤ (xs.length : Int)) :
    ∃ A' c', (∀ {e : Env} {x oh : Operand} {d ty pos af g}, evo e x = some (.slice A xs.length c) → evo e oh = some (.int k m) → ∀ W, AskIs P e (Oper.mk d (.slice t x none (some oh) none) ty pos af g) (.slice A' (xs.take m.toNat).length c') W) ∧
      Ft (Own E el (.slice A' (xs.take m.toNat).length c') (xs.take m.toNat)) w o L ∧ (xs.take m.toNat).length ≤ c' := by
  have hm : m.toNat ≤ xs.length := by omega
  have hl : (xs.take m.toNat).length = m.toNat := by simp [hm]
  refine ⟨A, c, fun {e x oh d ty pos af g} hx hoh W ρ hρ => ?_, f.imp fun W hW => by rw [hl]; exact hW.take hm, by rw [hl]; omega⟩
  have hr := run_cut (P := P) (w := W) ht hu hi (A := A) (len := xs.length) (cap := c) (lo := none) (hi' := some (.int k m)) rfl ⟨h0, by omega, trivial⟩
  have e3 : (if c = 0 then A else A.map (·.add (0 * E.sz))) = A := by
    split
    · rfl
    · cases A <;> simp [Addr.add]
  rw [e3] at hr
  simp [execOp, hρ _ _ hx, hρ _ _ hoh, hr, hl]
end
end Go.Proofs.XC
