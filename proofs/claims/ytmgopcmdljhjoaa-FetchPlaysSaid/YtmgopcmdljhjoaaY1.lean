/- Words of an own calculus over the model: how a call's frame, rows and boxes go through its operations. -/
import Derived.WalkKit
import Derived.OrdersHeld
/-! An own calculus of walks: frames as lists, and an evaluator of what leaves memory alone. -/
namespace Go.Proofs.XC
open Go

abbrev Env := List (Nat × Value)
def look : Env → Nat → Option Value
  | [], _ => none
  | (k, v) :: e, t => bif Nat.beq k t then some v else look e t
def evo (e : Env) : Operand → Option Value
  | .tmp t => look e t
  | .const v => some v
  | .global g => some (.pointer (some ⟨g, 0, none⟩))
  | .func f => some (.func (.func f) #[] #[])

/-- What is known of a frame. -/
structure KnD (n : Nat) (ds : List Deferred) (a : Act) (e : Env) : Prop where
  size : a.tmps.size = n
  defers : a.defers = ds
  at_ : ∀ t v, look e t = some v → a.tmps[t]? = some v
abbrev Kn (n : Nat) (a : Act) (e : Env) : Prop := KnD n [] a e

section
variable {n : Nat} {ds : List Deferred} {a : Act} {e e' : Env}
theorem KnD.ev (h : KnD n ds a e) {x : Operand} {v : Value} (hx : evo e x = some v) : a.eval x = v := by
  cases x with
  | tmp t => simp only [evo] at hx; simp [Act.eval, Array.getD_eq_getD_getElem?, h.at_ t v hx]
  | const u => simpa [evo, Act.eval] using hx
  | global g => simpa [evo, Act.eval] using hx
  | func f => simpa [evo, Act.eval] using hx
theorem KnD.put (h : KnD n ds a e) (d : Nat) (v : Value) (hd : Nat.blt d n = true) : KnD n ds (a.put (some d) v) ((d, v) :: e) := by
  have hd' : d < n := by simpa [Nat.blt_eq] using hd
  refine ⟨by simp [Act.put, h.size], by simp [Act.put, h.defers], fun t u ht => ?_⟩
  simp only [Act.put]
  simp only [look] at ht
  by_cases hk : d = t
  · subst hk
    simp only [Nat.beq_refl, cond_true, Option.some.injEq] at ht
    subst ht
    rw [Array.getElem?_setIfInBounds]
    simp [h.size, hd']
  · have : Nat.beq d t = false := by
      cases hb : Nat.beq d t with
      | false => rfl
      | true => exact absurd (Nat.eq_of_beq_eq_true hb) hk
    simp only [this, cond_false] at ht
    rw [Array.getElem?_setIfInBounds, if_neg hk]
    exact h.at_ t u ht
theorem KnD.put' (h : KnD n ds a e) (d : Option Nat) (v : Value) (hd : (match d with | some d => Nat.blt d n | none => true) = true) :
    KnD n ds (a.put d v) (match d with | some d => (d, v) :: e | none => e) := by
  cases d with
  | none => exact h
  | some d => exact h.put d v hd
/-- Less may be known. -/
theorem KnD.sub (h : KnD n ds a e) (hs : ∀ t v, look e' t = some v → look e t = some v) : KnD n ds a e' := ⟨h.size, h.defers, fun t v ht => h.at_ t v (hs t v ht)⟩
def keep (ks : List Nat) : Env → Env
  | [] => []
  | (k, v) :: e => bif ks.any (Nat.beq k) then (k, v) :: keep (ks.filter fun x => !Nat.beq k x) e else keep ks e
theorem look_keep (t : Nat) (v : Value) : ∀ (e : Env) (ks : List Nat), look (keep ks e) t = some v → look e t = some v ∧ t ∈ ks
  | [], _ => by simp [keep, look]
  | (k, u) :: e, ks => by
    intro h
    simp only [keep] at h
    cases ha : ks.any (Nat.beq k) with
    | true =>
      simp only [ha, cond_true, look] at h ⊢
      cases hb : Nat.beq k t with
      | true =>
        simp only [hb, cond_true] at h ⊢
        refine ⟨h, ?_⟩
        obtain ⟨x, hx, hxk⟩ := List.any_eq_true.1 ha
        have := Nat.eq_of_beq_eq_true hxk
        have h2 := Nat.eq_of_beq_eq_true hb
        subst this; subst h2; exact hx
      | false =>
        simp only [hb, cond_false] at h ⊢
        obtain ⟨h1, h2⟩ := look_keep t v e _ h
        exact ⟨h1, (List.mem_filter.1 h2).1⟩
    | false =>
      simp only [ha, cond_false] at h
      obtain ⟨h1, h2⟩ := look_keep t v e ks h
      refine ⟨?_, h2⟩
      simp only [look]
      cases hb : Nat.beq k t with
      | true =>
        have h3 := Nat.eq_of_beq_eq_true hb
        subst h3
        have : ks.any (Nat.beq k) = true := List.any_eq_true.2 ⟨k, h2, Nat.beq_refl k⟩
        rw [ha] at this; cases this
      | false => simpa using h1
theorem KnD.keep (h : KnD n ds a e) (ks : List Nat) : KnD n ds a (XC.keep ks e) := h.sub fun t v ht => (look_keep t v e ks ht).1
end

/-! ### What is told of a program's types -/
structure Tab where
  und : List (Nat × TypeDesc)
  inf : List (Nat × (Nat × Nat × Value))     -- size, bytes, zero
def find {α : Type} : List (Nat × α) → Nat → Option α
  | [], _ => none
  | (k, v) :: l, t => bif Nat.beq k t then some v else find l t
theorem find_mem {α : Type} {l : List (Nat × α)} {t : Nat} {x : α} : find l t = some x → (t, x) ∈ l := by
  induction l with
  | nil => simp [find]
  | cons p l ih =>
    obtain ⟨k, v⟩ := p
    simp only [find]
    cases hb : Nat.beq k t with
    | true =>
      have := Nat.eq_of_beq_eq_true hb
      subst this
      simp only [cond_true, Option.some.injEq]
      rintro rfl
      exact List.mem_cons_self
    | false => exact fun h => List.mem_cons_of_mem _ (ih h)
structure TabOK (P : Program) (T : Tab) : Prop where
  und : ∀ p ∈ T.und, P.underlying p.1 = some p.2
  inf : ∀ p ∈ T.inf, (P.info? p.1).map (fun i => (i.size, i.bytes, i.zero)) = some (p.2.1, p.2.2.1, some p.2.2.2)
section
variable {P : Program} {T : Tab} (ht : TabOK P T)
include ht
theorem TabOK.u {t : Nat} {d : TypeDesc} (h : find T.und t = some d) : P.underlying t = some d := ht.und _ (find_mem h)
theorem TabOK.i {t s b : Nat} {z : Value} (h : find T.inf t = some (s, b, z)) : ∃ i, P.info? t = some i ∧ i.size = s ∧ i.bytes = b ∧ i.zero = some z := by
  obtain ⟨i, hi, hz⟩ := Option.map_eq_some_iff.1 (ht.inf _ (find_mem h))
  simp only [Prod.mk.injEq] at hz
  exact ⟨i, hi, hz.1, hz.2.1, hz.2.2⟩
end

/-! ### The evaluator -/
def Conj : List Prop → Prop
  | [] => True
  | p :: l => p ∧ Conj l
theorem Conj.append {l m : List Prop} : Conj (l ++ m) → Conj l ∧ Conj m := by
  induction l with
  | nil => exact fun h => ⟨trivial, h⟩
  | cons p l ih => exact fun h => ⟨⟨h.1, (ih h.2).1⟩, (ih h.2).2⟩
def bt (s : ByteArray) (i : Int) : Int := if h : i.toNat < s.size then ((s[i.toNat]'h).toNat : Int) else 0

abbrev Res := Option (Value × List Prop)
/-- A load yields v. -/
def LoadIs (P : Program) (t : TypeId) (ad : Addr) (v : Value) (w : World) : Prop := (loadVar t ad).run P w = .ok v w
def pureV (v : Value) : Res := some (v, [])
def wr (k : IntKind) (n : Int) : Value := .int k (k.wrap n)
def binP (T : Tab) (op : BinOp) (t : Nat) : Value → Value → Res
  | .int k a, .int k' b => match op with
    | .shl => some (wr k (a * 2 ^ min b.toNat k.bits), [0 ≤ b])
    | .shr => some (.int k (a.fdiv (2 ^ min b.toNat k.bits)), [0 ≤ b])
    | .add => if k = k' then pureV (wr k (a + b)) else none
    | .sub => if k = k' then pureV (wr k (a - b)) else none
    | .mul => if k = k' then pureV (wr k (a * b)) else none
    | .quo => if k = k' then some (wr k (a.tdiv b), [b ≠ 0]) else none
    | .rem => if k = k' then some (.int k (a.tmod b), [b ≠ 0]) else none
    | .and => if k = k' then pureV (.int k (bits .and k a b)) else none
    | .or => if k = k' then pureV (.int k (bits .or k a b)) else none
    | .xor => if k = k' then pureV (.int k (bits .xor k a b)) else none
    | .andNot => if k = k' then pureV (.int k (bits .andNot k a b)) else none
    | .eql => if k = k' then pureV (.bool (a == b)) else none
    | .neq => if k = k' then pureV (.bool (a != b)) else none
    | .lss => if k = k' then pureV (.bool (decide (a < b))) else none
    | .leq => if k = k' then pureV (.bool (decide (a ≤ b))) else none
    | .gtr => if k = k' then pureV (.bool (decide (a > b))) else none
    | .geq => if k = k' then pureV (.bool (decide (a ≥ b))) else none
  | .string a, .string b => match op with
    | .add => some (.string (a ++ b), [((a.size + b.size : Nat) : Int) ≤ 9223372036854775807])
    | .eql => pureV (.bool (a.toList == b.toList))
    | .neq => pureV (.bool (!(a.toList == b.toList)))
    | .lss => pureV (.bool (Op.bytesLess a.toList b.toList))
    | _ => none
  | .bool a, .bool b => match op, find T.und t with
    | .eql, some .bool => pureV (.bool (a == b))
    | .neq, some .bool => pureV (.bool (!(a == b)))
    | _, _ => none
  | .pointer a, .pointer none => match op, find T.und t with
    | .eql, some (.pointer _) => pureV (.bool a.isNone)
    | .neq, some (.pointer _) => pureV (.bool (!a.isNone))
    | _, _ => none
  | .slice a _ _, .slice none _ _ => match op, find T.und t with
    | .eql, some (.slice _) => pureV (.bool a.isNone)
    | .neq, some (.slice _) => pureV (.bool (!a.isNone))
    | _, _ => none
  | _, _ => none
def unP (op : UnOp) : Value → Res
  | .int k n => match op with
    | .neg => pureV (wr k (0 - n))
    | .xor => pureV (.int k (bits .xor k (if k.signed then -1 else k.max) n))
    | _ => none
  | .bool b => match op with
    | .not => pureV (.bool (!b))
    | _ => none
  | _ => none
def convP (T : Tab) (s d : Nat) (v : Value) : Res :=
  match find T.und s, find T.und d, v with
  | some (.int _), some (.int k), .int _ n => pureV (wr k n)
  | some .string, some .string, .string x => pureV (.string x)
  | _, _, _ => none
def fieldP (T : Tab) (s f : Nat) : Option Field :=
  match find T.und s with
  | some (.struct fields) => fields[f]?
  | _ => none
def aggT (T : Tab) (t : Nat) : Option Bool :=
  match find T.und t with
  | some (.struct _) | some (.array _ _) => some true
  | some .invalid | none => none
  | some (.named _ _) => none
  | some _ => some false
def partP (T : Tab) (t : Nat) (cs : Array Value) (off : Nat) : Option Value :=
  match aggT T t with
  | some true => match find T.inf t with
    | some (s, _, _) => some (.agg (cs.extract off (off + s)))
    | none => none
  | some false => cs[off]?
  | none => none
def minI (k : IntKind) : Int → List Value → Option Int
  | x, [] => some x
  | x, .int _ y :: l => minI k (if y < x then y else x) l
  | _, _ => none
def maxI (k : IntKind) : Int → List Value → Option Int
  | x, [] => some x
  | x, .int _ y :: l => maxI k (if y > x then y else x) l
  | _, _ => none
def allSome {α : Type} : List (Option α) → Option (List α)
  | [] => some []
  | some v :: l => match allSome l with
    | some r => some (v :: r)
    | none => none
  | none :: _ => none
def builtinP (T : Tab) (b : Builtin) (ts : Array TypeId) (vs : List Value) : Res :=
  match b, vs with
  | .len, [.string s] => match (ts[0]?).bind (find T.und) with
    | some .string => pureV (.int .i64 s.size)
    | _ => none
  | .len, [.slice _ n _] => match (ts[0]?).bind (find T.und) with
    | some (.slice _) => pureV (.int .i64 n)
    | _ => none
  | .cap, [.slice _ _ c] => match (ts[0]?).bind (find T.und) with
    | some (.slice _) => pureV (.int .i64 c)
    | _ => none
  | .min, .int k x :: l => match minI k x l with
    | some r => pureV (.int k r)
    | none => none
  | .max, .int k x :: l => match maxI k x l with
    | some r => pureV (.int k r)
    | none => none
  | _, _ => none
/-- Bounds of a cut. -/
def cutP (len cap : Nat) (lo hi : Option Value) : Option (Nat × Nat × List Prop) :=
  match lo, hi with
  | none, none => some (0, len, [])
  | some (.int _ l), none => some (l.toNat, len, [0 ≤ l, l ≤ (len : Int)])
  | none, some (.int _ h) => some (0, h.toNat, [0 ≤ h, h ≤ (cap : Int)])
  | some (.int _ l), some (.int _ h) => some (l.toNat, h.toNat, [0 ≤ h, h ≤ (cap : Int), 0 ≤ l, l ≤ (h.toNat : Int)])
  | _, _ => none
def optV (ev : Operand → Option Value) : Option Operand → Option (Option Value)
  | none => some none
  | some x => (ev x).map some
def sliceP (T : Tab) (t : Nat) (v : Value) (lo hi : Option Value) : Res :=
  match find T.und t, v with
  | some .string, .string s => match cutP s.size s.size lo hi with
    | some (l, h, cs) => some (.string (s.extract l h), cs)
    | none => none
  | _, _ => none
def evalP (T : Tab) (ev : Operand → Option Value) : Op → Res
  | .move x | .assign x => match ev x with
    | some v => pureV v
    | none => none
  | .pick c x y => match ev c with
    | some (.bool true) => match ev x with
      | some v => pureV v
      | none => none
    | some (.bool false) => match ev y with
      | some v => pureV v
      | none => none
    | _ => none
  | .binOp op t x y _ => match y with
    | .const .nilIface => none
    | _ => match ev x, ev y with
      | some u, some v => binP T op t u v
      | _, _ => none
  | .unOp op _ x => match ev x with
    | some v => unP op v
    | none => none
  | .convert s d x => match ev x with
    | some v => convP T s d v
    | none => none
  | .extract x i => match ev x with
    | some (.tuple vs) => match vs[i]? with
      | some v => pureV v
      | none => none
    | _ => none
  | .nilCheck x => match ev x with
    | some (.pointer (some ad)) => pureV (.pointer (some ad))
    | _ => none
  | .field t x f => match ev x, fieldP T t f with
    | some (.agg cs), some fd => match partP T fd.type cs fd.offset with
      | some v => pureV v
      | none => none
    | _, _ => none
  | .fieldAddr t x f => match ev x, fieldP T t f with
    | some (.pointer (some ad)), some fd => match find T.inf fd.type with
      | some (s, _, _) => if s = 0 then none else pureV (.pointer (some (ad.add fd.offset)))
      | none => none
    | _, _ => none
  | .indexAddr t x i => match find T.und t, ev x, ev i with
    | some (.slice el), some (.slice (some ad) len _), some (.int _ j) => match find T.inf el with
      | some (s, _, _) => some (.pointer (some (ad.add (j.toNat * s))), [0 ≤ j ∧ j < (len : Int)])
      | none => none
    | some (.array len el), some (.pointer (some ad)), some (.int _ j) => match find T.inf el with
      | some (s, _, _) => some (.pointer (some (ad.add (j.toNat * s))), [0 ≤ j ∧ j < (len : Int)])
      | none => none
    | _, _, _ => none
  | .index t x i => match find T.und t, ev x, ev i with
    | some .string, some (.string s), some (.int _ j) => some (.int .u8 (bt s j), [0 ≤ j ∧ j < (s.size : Int)])
    | _, _, _ => none
  | .slice t x lo hi none => match ev x, optV ev lo, optV ev hi with
    | some v, some lo, some hi => sliceP T t v lo hi
    | _, _, _ => none
  | .build t parts => match find T.und t, find T.inf t, allSome (parts.toList.map fun p => ev p.2) with
    | some (.struct fields), some (_, _, z), some vs =>
      match allSome (fields.toList.map fun f => (find T.inf f.type).map fun x => (f.offset, x.1)) with
      | some ps => match Instr.fill (fun i => ps[i]?) z.cells ((parts.toList.map (·.1)).zip vs) with
        | some cells => pureV (.agg cells)
        | none => none
      | none => none
    | _, _, _ => none
  | .makeFunc fn first captured => match allSome (first.toList.map ev), allSome (captured.toList.map ev) with
    | some f, some c => pureV (.func fn f.toArray c.toArray)
    | _, _ => none
  | .call c => match c.callee, allSome (c.args.toList.map ev) with
    | .builtin b, some vs => builtinP T b c.argTypes vs
    | _, _ => none
  | _ => none
end Go.Proofs.XC
