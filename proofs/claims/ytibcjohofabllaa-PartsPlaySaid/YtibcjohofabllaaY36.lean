/- Words of an own calculus over the model: how a call's frame, rows and boxes go through its operations. -/
import Derived.Test.YtibcjohofabllaaY35
import Derived.MapKept
set_option linter.unusedSimpArgs false
set_option linter.unusedVariables false
namespace Go.Proofs.XC
open Go Go.MapKept

/-! ### Maps with int keys: lists of what was laid, in its order -/
section
variable {β : Type}
def mfind : List (Int × β) → Int → Option β
  | [], _ => none
  | p :: l, k => if p.1 = k then some p.2 else mfind l k
def mput : List (Int × β) → Int → β → List (Int × β)
  | [], k, v => [(k, v)]
  | p :: l, k, v => if p.1 = k then (k, v) :: l else p :: mput l k v
def mdel : List (Int × β) → Int → List (Int × β)
  | [], _ => []
  | p :: l, k => if p.1 = k then l else p :: mdel l k
theorem mfind_none : ∀ {l : List (Int × β)} {k : Int}, (∀ p ∈ l, p.1 ≠ k) → mfind l k = none
  | [], _, _ => rfl
  | p :: l, k, h => by rw [mfind, if_neg (h p (by simp)), mfind_none fun q hq => h q (by simp [hq])]
theorem mfind_at : ∀ {l : List (Int × β)} {k : Int} {j : Nat} {x : β}, (l.map (·.1)).Nodup → l[j]? = some (k, x) → mfind l k = some x
  | [], _, _, _, _, h => by simp at h
  | p :: l, k, 0, x, _, h => by
    simp only [List.getElem?_cons_zero, Option.some.injEq] at h
    subst h
    rw [mfind, if_pos rfl]
  | p :: l, k, j + 1, x, hn, h => by
    simp only [List.getElem?_cons_succ] at h
    simp only [List.map_cons, List.nodup_cons] at hn
    have hne : p.1 ≠ k := fun e => hn.1 (by rw [e]; exact List.mem_map.2 ⟨_, List.mem_of_getElem? h, rfl⟩)
    rw [mfind, if_neg hne, mfind_at hn.2 h]
theorem mput_none : ∀ {l : List (Int × β)} {k : Int} {v : β}, (∀ p ∈ l, p.1 ≠ k) → mput l k v = l ++ [(k, v)]
  | [], _, _, _ => rfl
  | p :: l, k, v, h => by rw [mput, if_neg (h p (by simp)), mput_none fun q hq => h q (by simp [hq])]; rfl
theorem mput_at : ∀ {l : List (Int × β)} {k : Int} {j : Nat} {x v : β}, (l.map (·.1)).Nodup → l[j]? = some (k, x) → mput l k v = l.set j (k, v)
  | [], _, _, _, _, _, h => by simp at h
  | p :: l, k, 0, x, v, _, h => by
    simp only [List.getElem?_cons_zero, Option.some.injEq] at h
    subst h
    rw [mput, if_pos rfl]; rfl
  | p :: l, k, j + 1, x, v, hn, h => by
    simp only [List.getElem?_cons_succ] at h
    simp only [List.map_cons, List.nodup_cons] at hn
    have hne : p.1 ≠ k := fun e => hn.1 (by rw [e]; exact List.mem_map.2 ⟨_, List.mem_of_getElem? h, rfl⟩)
    rw [mput, if_neg hne, mput_at hn.2 h]; rfl
theorem mdel_none : ∀ {l : List (Int × β)} {k : Int}, (∀ p ∈ l, p.1 ≠ k) → mdel l k = l
  | [], _, _ => rfl
  | p :: l, k, h => by rw [mdel, if_neg (h p (by simp)), mdel_none fun q hq => h q (by simp [hq])]
theorem mdel_at : ∀ {l : List (Int × β)} {k : Int} {j : Nat} {x : β}, (l.map (·.1)).Nodup → l[j]? = some (k, x) → mdel l k = l.eraseIdx j
  | [], _, _, _, _, h => by simp at h
  | p :: l, k, 0, x, _, h => by
    simp only [List.getElem?_cons_zero, Option.some.injEq] at h
    subst h
    rw [mdel, if_pos rfl]; rfl
  | p :: l, k, j + 1, x, hn, h => by
    simp only [List.getElem?_cons_succ] at h
    simp only [List.map_cons, List.nodup_cons] at hn
    have hne : p.1 ≠ k := fun e => hn.1 (by rw [e]; exact List.mem_map.2 ⟨_, List.mem_of_getElem? h, rfl⟩)
    rw [mdel, if_neg hne, mdel_at hn.2 h]; rfl
end
theorem eraseIdx_map' {γ δ : Type} (f : γ → δ) : ∀ (l : List γ) (i : Nat), (l.map f).eraseIdx i = (l.eraseIdx i).map f
  | [], i => by simp
  | x :: l, 0 => rfl
  | x :: l, i + 1 => by simp only [List.map_cons, List.eraseIdx_cons_succ, eraseIdx_map' f l i]
/-- A map, or nil. -/
structure M (β : Type) where
  l : Option (List (Int × β))
namespace M
variable {β γ : Type}
def nil : M β := ⟨none⟩
def new : M β := ⟨some []⟩
def es (m : M β) : List (Int × β) := m.l.getD []
def length (m : M β) : Nat := m.es.length
def isNil (m : M β) : Bool := m.l.isNone
def has (m : M β) (k : Int) : Bool := (mfind m.es k).isSome
def get (z : β) (m : M β) (k : Int) : β := (mfind m.es k).getD z
def put (m : M β) (k : Int) (v : β) : M β := ⟨some (mput m.es k v)⟩
def del (m : M β) (k : Int) : M β := ⟨m.l.map (mdel · k)⟩
def wipe (m : M β) : M β := ⟨m.l.map fun _ => []⟩
def map (f : β → γ) (m : M β) : M γ := ⟨m.l.map fun l => l.map fun p => (p.1, f p.2)⟩
end M
/-- An element's value. -/
def ev {β : Type} (E : Enc β) (ag : Bool) (x : β) : Value := bif ag then .agg (E.f x).toArray else ((E.f x)[0]?).getD undef
def mv (A : Option Addr) : Value := .map (A.map (·.block))
def MapAt {β : Type} (fv : β → Value) (b : Nat) (l : List (Int × β)) (w : World) : Prop :=
  ∃ (es : Array MapEntry) (ck : Nat), w.heap[b]? = some (.map es ck) ∧ Stamped es ck ∧ es.toList.map (fun e => (e.key, e.val)) = l.map (fun p => (Value.int .i64 p.1, fv p.2))
/-- The map at A (nil, or a block). -/
def MpF {β : Type} (E : Enc β) (ag : Bool) (A : Option Addr) (m : M β) (w : World) : Prop :=
  (A = none ∧ m = M.nil) ∨ ∃ b l, A = some ⟨b, 0, none⟩ ∧ m = ⟨some l⟩ ∧ MapAt (ev E ag) b l w
section
variable {β : Type} {fv : β → Value} {b : Nat} {l : List (Int × β)} {es : Array MapEntry} {ck : Nat}
theorem ents_at (he : es.toList.map (fun e => (e.key, e.val)) = l.map (fun p => (Value.int .i64 p.1, fv p.2))) {j : Nat} {e : MapEntry} (h : es[j]? = some e) : ∃ k x, l[j]? = some (k, x) ∧ e.key = .int .i64 k ∧ e.val = fv x := by
  have h1 : (es.toList.map (fun e => (e.key, e.val)))[j]? = some (e.key, e.val) := by simp [h]
  rw [he, List.getElem?_map] at h1
  cases hl : l[j]? with
  | none => rw [hl] at h1; cases h1
  | some p =>
    rw [hl] at h1
    simp only [Option.map_some, Option.some.injEq, Prod.mk.injEq] at h1
    exact ⟨p.1, p.2, rfl, h1.1.symm, h1.2.symm⟩
theorem ents_keys (he : es.toList.map (fun e => (e.key, e.val)) = l.map (fun p => (Value.int .i64 p.1, fv p.2))) : ∀ x ∈ es.toList, IsKey (.int .i64) x.key := by
  intro x hx
  obtain ⟨j, hj⟩ := List.getElem?_of_mem hx
  obtain ⟨k, y, _, h2, _⟩ := ents_at he (by simpa using hj)
  rw [h2]; rfl
theorem ents_nodup (hs : Stamped es ck) (he : es.toList.map (fun e => (e.key, e.val)) = l.map (fun p => (Value.int .i64 p.1, fv p.2))) : (l.map (·.1)).Nodup := by
  have h1 := hs.2.2
  have h2 : es.toList.map (·.key) = (l.map (·.1)).map (fun k => Value.int .i64 k) := by
    have := congrArg (List.map Prod.fst) he
    simpa [List.map_map, Function.comp_def] using this
  rw [h2] at h1
  exact (List.pairwise_map.1 h1).imp fun h e => h (by rw [e])
theorem ents_find (hs : Stamped es ck) (he : es.toList.map (fun e => (e.key, e.val)) = l.map (fun p => (Value.int .i64 p.1, fv p.2))) (k : Int) :
    (Instr.findNow (.int .i64) (.int .i64 k) es.toList 0 = some none ∧ (∀ x ∈ es.toList, x.key ≠ .int .i64 k) ∧ (∀ p ∈ l, p.1 ≠ k)) ∨
    ∃ j e x, Instr.findNow (.int .i64) (.int .i64 k) es.toList 0 = some (some (j, fv x)) ∧ es[j]? = some e ∧ e.key = .int .i64 k ∧ l[j]? = some (k, x) := by
  rcases findNow_spec (d := .int .i64) (k := .int .i64 k) rfl es.toList 0 (ents_keys he) with ⟨h1, h2⟩ | ⟨j, e, h1, h2, h3⟩
  · refine .inl ⟨h1, h2, fun p hp => ?_⟩
    obtain ⟨j, hj⟩ := List.getElem?_of_mem hp
    have h4 : (es.toList.map (fun e => (e.key, e.val)))[j]? = some (Value.int .i64 p.1, fv p.2) := by rw [he]; simp [hj]
    rw [List.getElem?_map] at h4
    cases hl : es.toList[j]? with
    | none => rw [hl] at h4; cases h4
    | some e =>
      rw [hl] at h4
      simp only [Option.map_some, Option.some.injEq, Prod.mk.injEq] at h4
      intro e2
      exact h2 e (List.mem_of_getElem? hl) (by rw [h4.1, e2])
  · have h4 : es[j]? = some e := by simpa using h2
    obtain ⟨k', x, h5, h6, h7⟩ := ents_at he h4
    rw [h3] at h6
    injection h6 with _ h6
    subst h6
    exact .inr ⟨j, e, x, by rw [h1, h7, Nat.zero_add], h4, h3, h5⟩
end
section
variable {ρ : Option Nat} {ds : List Deferred} {P : Program} {T : Tab} {n : Nat} {a : Act} {e : Env} {w w' : World} {o o' : Nat → Nat} {L : Nat} {Q : Exit → Act → World → Prop} {K : Act → World → Prop}
  {d : Option Tmp} {ty : TypeId} {pos : String} {af : Array Edge} {gd : Option (Nat × Bool)} {β : Type} {E : Enc β} {ag : Bool} {A : Option Addr} {m : M β}
theorem MpF.nil (E : Enc β) (ag : Bool) (w : World) : MpF E ag none M.nil w := .inl ⟨rfl, rfl⟩
theorem MpF.nul (h : MpF E ag A m w) : A.isNone = m.isNil := by
  rcases h with ⟨rfl, rfl⟩ | ⟨b, l, rfl, rfl, _⟩ <;> rfl
theorem run_lookup (ht : TabOK P T) {mt kt et s bb : Nat} {z : Value} {zx : β} (hm : find T.und mt = some (.map kt et)) (hkt : find T.und kt = some (.int .i64)) (hz : find T.inf et = some (s, bb, z)) (hzx : z = ev E ag zx) (h : MpF E ag A m w) (k : Int) (ok : Bool) :
    (Instr.lookup mt (mv A) (.int .i64 k) ok).run P w = .ok (if ok then .tuple #[ev E ag (m.get zx k), .bool (m.has k)] else ev E ag (m.get zx k)) w := by
  have hm' := ht.u hm
  have hk' := ht.u hkt
  have hz' := run_zeroValue' (w := w) ht hz
  have hck := fun (e : Bool) => run_checkKey (w := w) hk' (k := .int .i64 k) rfl e 9999
  rcases h with ⟨rfl, rfl⟩ | ⟨b, l, rfl, rfl, es, ck, hb, hs, he⟩
  · have hf := run_findKey (w := w) (P := P) (kt := kt) (k := .int .i64 k) (l := []) (a := none) hk' rfl
    subst hzx
    cases ok <;> simp [Instr.lookup, mv, run_underlying hm', hck, hf, hz', M.get, M.has, M.es, M.nil, mfind, Result.andThen]
  · rcases ents_find hs he k with ⟨h1, h2, h3⟩ | ⟨j, e, x, h1, h2, h3, h4⟩
    · have hf := run_findKey (w := w) (P := P) hk' h1
      subst hzx
      cases ok <;> simp [Instr.lookup, mv, run_underlying hm', MapKept.run_getObj_map hb, hck, hf, hz', M.get, M.has, M.es, mfind_none h3, Result.andThen]
    · have hf := run_findKey (w := w) (P := P) hk' h1
      cases ok <;> simp [Instr.lookup, mv, run_underlying hm', MapKept.run_getObj_map hb, hck, hf, M.get, M.has, M.es, mfind_at (ents_nodup hs he) h4, Result.andThen]
theorem ask_look (ht : TabOK P T) {mt kt et s bb : Nat} {z : Value} {zx : β} (hm : find T.und mt = some (.map kt et)) (hkt : find T.und kt = some (.int .i64)) (hz : find T.inf et = some (s, bb, z)) (hzx : z = ev E ag zx) (h : MpF E ag A m w) {k : Int}
    {x y : Operand} (hx : evo e x = some (mv A)) (hy : evo e y = some (.int .i64 k)) : AskIs P e (Oper.mk d (.lookup mt x y true) ty pos af gd) (.tuple #[ev E ag (m.get zx k), .bool (m.has k)]) w := by
  intro ρ hρ
  have := run_lookup ht hm hkt hz hzx h k true
  simp only [if_true] at this
  simp [execOp, hρ _ _ hx, hρ _ _ hy, this]
theorem ask_look1 (ht : TabOK P T) {mt kt et s bb : Nat} {z : Value} {zx : β} (hm : find T.und mt = some (.map kt et)) (hkt : find T.und kt = some (.int .i64)) (hz : find T.inf et = some (s, bb, z)) (hzx : z = ev E ag zx) (h : MpF E ag A m w) {k : Int}
    {x y : Operand} (hx : evo e x = some (mv A)) (hy : evo e y = some (.int .i64 k)) : AskIs P e (Oper.mk d (.lookup mt x y false) ty pos af gd) (ev E ag (m.get zx k)) w := by
  intro ρ hρ
  have := run_lookup ht hm hkt hz hzx h k false
  simp only [Bool.false_eq_true, if_false] at this
  simp [execOp, hρ _ _ hx, hρ _ _ hy, this]
theorem MapAt.len {fv : β → Value} {b : Nat} {l : List (Int × β)} {es : Array MapEntry} (he : es.toList.map (fun e => (e.key, e.val)) = l.map (fun p => (Value.int .i64 p.1, fv p.2))) : es.size = l.length := by
  have := congrArg List.length he
  simpa using this
theorem ask_mlen (ht : TabOK P T) {mt kt et : Nat} (hm : find T.und mt = some (.map kt et)) (h : MpF E ag A m w) {x : Operand} (hx : evo e x = some (mv A)) :
    AskIs P e (Oper.mk d (.call { callee := .builtin .len, args := #[x], argTypes := #[mt] }) ty pos af gd) (.int .i64 (m.length : Int)) w := by
  intro ρ hρ
  have hm' := ht.u hm
  have hu := run_underlying' (w := w) hm'
  rcases h with ⟨rfl, rfl⟩ | ⟨b, l, rfl, rfl, es, ck, hb, hs, he⟩
  · simp [execOp, resolve, invoke, builtin, Builtin.len_, hρ _ _ hx, hu, mv, goInt, M.length, M.nil, M.es]
  · simp [execOp, resolve, invoke, builtin, Builtin.len_, hρ _ _ hx, hu, mv, goInt, M.length, M.es, MapKept.run_getObj_map hb, MapAt.len (b := b) he]
theorem ask_mnil (ht : TabOK P T) {mt kt et : Nat} (hm : find T.und mt = some (.map kt et)) (h : MpF E ag A m w) {x : Operand} (hx : evo e x = some (mv A)) :
    AskIs P e (Oper.mk d (.binOp .eql mt x (.const (.map none)) mt) ty pos af gd) (.bool m.isNil) w := by
  intro ρ hρ
  have hu := run_underlying' (w := w) (ht.u hm)
  rw [← h.nul]
  have hc := hρ (.const (.map none)) (.map none) rfl
  have he : (Op.equal mt (mv A) (.map none)).run P w = .ok A.isNone w := by
    refine equal_of fun n => ?_
    cases A <;> simp [Op.equalIn, hu, mv]
  have := run_eq_of (x := x) (y := .const (.map none)) ⟨rfl, rfl⟩ he
  simp only [execOp, hρ _ _ hx, hc]
  simp only [Sem.run_bind] at this ⊢
  simp [this]
/-! ### A map is made, written, cleared -/
theorem MapAt.kept {fv : β → Value} {b : Nat} {l : List (Int × β)} (h : MapAt fv b l w) (hk : w'.heap[b]? = w.heap[b]?) : MapAt fv b l w' := by
  obtain ⟨es, ck, hb, r⟩ := h
  exact ⟨es, ck, hk.trans hb, r⟩
theorem MapAt.lt {fv : β → Value} {b : Nat} {l : List (Int × β)} (h : MapAt fv b l w) : b < w.heap.size := by
  obtain ⟨es, ck, hb, r⟩ := h
  exact (Array.getElem?_eq_some_iff.1 hb).1
theorem MpF.ft {b : Nat} {l : List (Int × β)} (h : MapAt (ev E ag) b l w) (hL : o b = L) : Ft (MpF E ag (some ⟨b, 0, none⟩) ⟨some l⟩) w o L := fun w' hw => .inr ⟨b, l, rfl, rfl, h.kept (hw b hL h.lt)⟩
theorem MpF.lab {b : Nat} (h : Ft (MpF E ag (some ⟨b, 0, none⟩) m) w o L) : o b = L := by
  by_cases ho : o b = L
  · exact ho
  · exfalso
    obtain ⟨b', l, hA, hm, hat⟩ : ∃ b' l, (some (⟨b, 0, none⟩ : Addr)) = some ⟨b', 0, none⟩ ∧ m = ⟨some l⟩ ∧ MapAt (ev E ag) b' l w := by
      rcases h.now with ⟨hA, _⟩ | h
      · cases hA
      · exact h
    have hbb : b = b' := by injection hA with hA; injection hA
    subst hbb
    have hlt := hat.lt
    have h2 := h { w with heap := w.heap.setIfInBounds b (.cells #[] 0) } fun c hc _ => by
      have : c ≠ b := fun e => ho (by rw [← e]; exact hc)
      simp [Array.getElem?_setIfInBounds, Ne.symm this]
    rcases h2 with ⟨hA, _⟩ | ⟨b2, l2, hA, _, es, ck, hb, _⟩
    · cases hA
    · have : b = b2 := by injection hA with hA; injection hA
      subst this
      simp [hlt] at hb
theorem op_mmake {t : Nat} {r : Option Operand} (hr : r = none) (E : Enc β) (ag : Bool) (L : Nat)
    (h : ∀ b w' o', St [] w o w' o' → Ft (MpF E ag (some ⟨b, 0, none⟩) (M.new : M β)) w' o' L → K (a.put d (mv (some ⟨b, 0, none⟩))) w') :
    (Oper.mk d (.makeMap t r) ty pos af gd).wpIn (WF ρ) 0 P a w K Q := by
  subst hr
  refine op_of_run (v := .map (some w.heap.size)) (w' := w.alloc (.map #[] 0)) ?_ (h w.heap.size _ _ (St.alloc [] w o _ L) (MpF.ft ⟨#[], 0, heap_alloc_new w _, stamped_empty 0, rfl⟩ (by simp [newLab])))
  simp [execOp, Instr.makeMap, Result.andThen]
theorem setb_st {b : Nat} {ob ob' : Obj} (hb : w.heap[b]? = some ob) (hL : o b = L) : St [L] w o { w with heap := w.heap.setIfInBounds b ob' } o :=
  ⟨rfl, rfl, rfl, by simp, fun _ _ => rfl, fun c _ hc => by
    have : c ≠ b := fun e => hc (by rw [e, hL]; simp)
    simp [Array.getElem?_setIfInBounds, Ne.symm this]⟩
theorem map_set {γ δ : Type} (f : γ → δ) (l : List γ) (i : Nat) (x : γ) : (l.set i x).map f = (l.map f).set i (f x) := List.map_set
theorem op_mput (ht : TabOK P T) (hk : KnD n ds a e) {mt kt et : Nat} {x y z : Operand} {k : Int} {v : β}
    (hm : find T.und mt = some (.map kt et)) (hkt : find T.und kt = some (.int .i64)) (hx : evo e x = some (mv A)) (hy : evo e y = some (.int .i64 k)) (hz : evo e z = some (ev E ag v)) (hf : Ft (MpF E ag A m) w o L) (hn : m.isNil = false)
    (h : ∀ w', St [L] w o w' o → Ft (MpF E ag A (m.put k v)) w' o L → K (a.put d undef) w') :
    (Oper.mk d (.mapUpdate mt x y z) ty pos af gd).wpIn (WF ρ) 0 P a w K Q := by
  have hm' := ht.u hm
  have hk' := ht.u hkt
  have hck := fun (e : Bool) => run_checkKey (w := w) hk' (k := .int .i64 k) rfl e 9999
  rcases hf.now with ⟨_, rfl⟩ | ⟨b, l, rfl, rfl, es, ck, hb, hs, he⟩
  · cases hn
  have hL := MpF.lab hf
  have hlt : b < w.heap.size := (Array.getElem?_eq_some_iff.1 hb).1
  rcases ents_find hs he k with ⟨h1, h2, h3⟩ | ⟨j, q, x1, h1, h2, h3, h4⟩
  · have hfk := run_findKey (w := w) (P := P) hk' h1
    refine op_of_skip (w' := { w with heap := w.heap.setIfInBounds b (.map (es.push { key := .int .i64 k, val := ev E ag v, born := ck }) (ck + 1)) }) ?_ (h _ (setb_st hb hL) ?_)
    · simp [execOp, hk.ev hx, hk.ev hy, hk.ev hz, mv, Instr.mapUpdate, run_underlying hm', MapKept.run_getObj_map hb, hck, hfk, MapKept.run_setObj_map _ hb, Result.andThen]
    · show Ft (MpF E ag (some ⟨b, 0, none⟩) ⟨some (mput l k v)⟩) _ _ _
      refine MpF.ft ⟨es.push { key := .int .i64 k, val := ev E ag v, born := ck }, ck + 1, by simp [hlt], stamped_push hs h2, ?_⟩ hL
      rw [mput_none h3]
      simp [he]
  · have hfk := run_findKey (w := w) (P := P) hk' h1
    have hks := run_keyThatStays (P := P) (w := w) (d := .int .i64) (k := .int .i64 k) rfl
    refine op_of_skip (w' := { w with heap := w.heap.setIfInBounds b (.map (es.modify j fun e => { e with key := .int .i64 k, val := ev E ag v }) ck) }) ?_ (h _ (setb_st hb hL) ?_)
    · simp [execOp, hk.ev hx, hk.ev hy, hk.ev hz, mv, Instr.mapUpdate, run_underlying hm', MapKept.run_getObj_map hb, hck, hfk, h2, h3, hks, MapKept.run_setObj_map _ hb, Result.andThen]
    · show Ft (MpF E ag (some ⟨b, 0, none⟩) ⟨some (mput l k v)⟩) _ _ _
      have hkey : ∀ e', es[j]? = some e' → ({ e' with key := .int .i64 k, val := ev E ag v } : MapEntry).key = e'.key := fun e' he' => by rw [h2] at he'; cases he'; exact h3.symm
      refine MpF.ft ⟨es.modify j fun e => { e with key := .int .i64 k, val := ev E ag v }, ck, by simp [hlt], stamped_modify hs j (fun e => { e with key := .int .i64 k, val := ev E ag v }) (fun _ _ => rfl) (fun e' _ he' => hkey e' he'), ?_⟩ hL
      rw [mput_at (ents_nodup hs he) h4, map_set, ← he]
      apply List.ext_getElem?
      intro i
      simp only [List.getElem?_map, Array.getElem?_toList, Array.getElem?_modify, List.getElem?_set, List.length_map, Array.length_toList]
      by_cases hij : j = i
      · subst hij
        have := (Array.getElem?_eq_some_iff.1 h2).1
        simp [h2, this]
      · simp [hij]
theorem op_mwipe (ht : TabOK P T) (hk : KnD n ds a e) {mt kt et : Nat} {x : Operand}
    (hm : find T.und mt = some (.map kt et)) (hx : evo e x = some (mv A)) (hf : Ft (MpF E ag A m) w o L)
    (h : ∀ w', St [L] w o w' o → Ft (MpF E ag A m.wipe) w' o L → K (a.put d (.tuple #[])) w') :
    (Oper.mk d (.call { callee := .builtin .clear, args := #[x], argTypes := #[mt] }) ty pos af gd).wpIn (WF ρ) 0 P a w K Q := by
  have hm' := ht.u hm
  have hu := run_underlying' (w := w) hm'
  rcases hf.now with ⟨rfl, rfl⟩ | ⟨b, l, rfl, rfl, es, ck, hb, hs, he⟩
  · refine op_of_run (v := .tuple #[]) (w' := w) ?_ (h w (St.refl _ w o) hf)
    simp [execOp, resolve, invoke, builtin, hk.ev hx, mv, Builtin.clear_, hu, Result.andThen]
  · have hL := MpF.lab hf
    have hlt : b < w.heap.size := (Array.getElem?_eq_some_iff.1 hb).1
    refine op_of_run (v := .tuple #[]) (w' := { w with heap := w.heap.setIfInBounds b (.map #[] ck) }) ?_ (h _ (setb_st hb hL) (MpF.ft (l := []) ⟨#[], ck, by simp [hlt], stamped_empty _, rfl⟩ hL))
    simp [execOp, resolve, invoke, builtin, hk.ev hx, mv, Builtin.clear_, hu, MapKept.run_getObj_map hb, MapKept.run_setObj_map _ hb, Result.andThen]
theorem op_mdel (ht : TabOK P T) (hk : KnD n ds a e) {mt kt et : Nat} {x y : Operand} {k : Int}
    (hm : find T.und mt = some (.map kt et)) (hkt : find T.und kt = some (.int .i64)) (hx : evo e x = some (mv A)) (hy : evo e y = some (.int .i64 k)) (hf : Ft (MpF E ag A m) w o L)
    (h : ∀ w', St [L] w o w' o → Ft (MpF E ag A (m.del k)) w' o L → K (a.put d (.tuple #[])) w') :
    (Oper.mk d (.call { callee := .builtin .delete, args := #[x, y], argTypes := #[mt, kt] }) ty pos af gd).wpIn (WF ρ) 0 P a w K Q := by
  have hm' := ht.u hm
  have hk' := ht.u hkt
  have hck := fun (e : Bool) => run_checkKey (w := w) hk' (k := .int .i64 k) rfl e 9999
  rcases hf.now with ⟨rfl, rfl⟩ | ⟨b, l, rfl, rfl, es, ck, hb, hs, he⟩
  · refine op_of_run (v := .tuple #[]) (w' := w) ?_ (h w (St.refl _ w o) hf)
    simp [execOp, resolve, invoke, builtin, hk.ev hx, hk.ev hy, mv, Builtin.delete_, run_underlying hm', hck, Result.andThen]
  · have hL := MpF.lab hf
    have hlt : b < w.heap.size := (Array.getElem?_eq_some_iff.1 hb).1
    rcases ents_find hs he k with ⟨h1, h2, h3⟩ | ⟨j, q, x1, h1, h2, h3, h4⟩
    · have hfk := run_findKey (w := w) (P := P) hk' h1
      refine op_of_run (v := .tuple #[]) (w' := { w with heap := w.heap.setIfInBounds b (.map es ck) }) ?_ (h _ (setb_st hb hL) ?_)
      · simp [execOp, resolve, invoke, builtin, hk.ev hx, hk.ev hy, mv, Builtin.delete_, run_underlying hm', MapKept.run_getObj_map hb, hck, hfk, MapKept.run_setObj_map _ hb, Result.andThen]
      · show Ft (MpF E ag (some ⟨b, 0, none⟩) ⟨some (mdel l k)⟩) _ _ _
        rw [mdel_none h3]
        exact MpF.ft ⟨_, _, by simp [hlt], hs, he⟩ hL
    · have hfk := run_findKey (w := w) (P := P) hk' h1
      refine op_of_run (v := .tuple #[]) (w' := { w with heap := w.heap.setIfInBounds b (.map (es.eraseIdxIfInBounds j) ck) }) ?_ (h _ (setb_st hb hL) ?_)
      · simp [execOp, resolve, invoke, builtin, hk.ev hx, hk.ev hy, mv, Builtin.delete_, run_underlying hm', MapKept.run_getObj_map hb, hck, hfk, MapKept.run_setObj_map _ hb, Result.andThen]
      · show Ft (MpF E ag (some ⟨b, 0, none⟩) ⟨some (mdel l k)⟩) _ _ _
        have hj := (Array.getElem?_eq_some_iff.1 h2).1
        refine MpF.ft ⟨_, _, by simp [hlt], stamped_erase hs j, ?_⟩ hL
        rw [mdel_at (ents_nodup hs he) h4]
        have e1 : (es.eraseIdxIfInBounds j).toList = es.toList.eraseIdx j := by
          unfold Array.eraseIdxIfInBounds
          rw [dif_pos hj, Array.toList_eraseIdx]
        rw [e1, ← eraseIdx_map', he, eraseIdx_map']
end
end Go.Proofs.XC
