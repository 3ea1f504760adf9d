/- Words of an own calculus over the model: how a call's frame, rows and boxes go through its operations. -/
import Derived.Test.YthmlldkmgdjeoaaZ4
set_option linter.unusedSimpArgs false
set_option linter.unusedVariables false
namespace Go.Proofs.XC
open Go Go.MapKept

/-! ### Maps whose elements hold rows: those stand on blocks of one label, that nothing turns -/
section
variable {β γ : Type}
theorem mfind_map (f : β → γ) (k : Int) : ∀ l : List (Int × β), mfind (l.map fun p => (p.1, f p.2)) k = (mfind l k).map f
  | [] => rfl
  | p :: l => by
    simp only [List.map_cons, mfind]
    by_cases h : p.1 = k
    · rw [if_pos h, if_pos h]; rfl
    · rw [if_neg h, if_neg h, mfind_map f k l]
theorem mput_map (f : β → γ) (k : Int) (v : β) : ∀ l : List (Int × β), mput (l.map fun p => (p.1, f p.2)) k (f v) = (mput l k v).map fun p => (p.1, f p.2)
  | [] => rfl
  | p :: l => by
    simp only [List.map_cons, mput]
    by_cases h : p.1 = k
    · rw [if_pos h, if_pos h]; rfl
    · rw [if_neg h, if_neg h, mput_map f k v l]; rfl
theorem mdel_map (f : β → γ) (k : Int) : ∀ l : List (Int × β), mdel (l.map fun p => (p.1, f p.2)) k = (mdel l k).map fun p => (p.1, f p.2)
  | [] => rfl
  | p :: l => by
    simp only [List.map_cons, mdel]
    by_cases h : p.1 = k
    · rw [if_pos h, if_pos h]
    · rw [if_neg h, if_neg h, mdel_map f k l]; rfl
theorem mput_mem {k : Int} {v : β} : ∀ {l : List (Int × β)} {p : Int × β}, p ∈ mput l k v → p = (k, v) ∨ p ∈ l
  | [], p, h => .inl (by simpa [mput] using h)
  | q :: l, p, h => by
    rw [mput] at h
    by_cases hk : q.1 = k
    · rw [if_pos hk] at h
      rcases List.mem_cons.1 h with h | h
      · exact .inl h
      · exact .inr (List.mem_cons_of_mem _ h)
    · rw [if_neg hk] at h
      rcases List.mem_cons.1 h with h | h
      · exact .inr (by rw [h]; simp)
      · rcases mput_mem h with h | h
        · exact .inl h
        · exact .inr (List.mem_cons_of_mem _ h)
theorem mdel_mem {k : Int} : ∀ {l : List (Int × β)} {p : Int × β}, p ∈ mdel l k → p ∈ l
  | [], p, h => by cases h
  | q :: l, p, h => by
    rw [mdel] at h
    by_cases hk : q.1 = k
    · rw [if_pos hk] at h; exact List.mem_cons_of_mem _ h
    · rw [if_neg hk] at h
      rcases List.mem_cons.1 h with h | h
      · rw [h]; simp
      · exact List.mem_cons_of_mem _ (mdel_mem h)
theorem mfind_mem {k : Int} {v : β} : ∀ {l : List (Int × β)}, mfind l k = some v → ∃ p ∈ l, p.2 = v
  | [], h => by cases h
  | q :: l, h => by
    rw [mfind] at h
    by_cases hk : q.1 = k
    · rw [if_pos hk] at h; injection h with h; exact ⟨q, by simp, h⟩
    · rw [if_neg hk] at h
      obtain ⟨p, h1, h2⟩ := mfind_mem h
      exact ⟨p, List.mem_cons_of_mem _ h1, h2⟩
namespace M
theorem es_map (f : β → γ) (m : M β) : (m.map f).es = m.es.map fun p => (p.1, f p.2) := by
  obtain ⟨l⟩ := m
  cases l <;> rfl
theorem length_map (f : β → γ) (m : M β) : (m.map f).length = m.length := by unfold M.length; rw [es_map, List.length_map]
theorem isNil_map (f : β → γ) (m : M β) : (m.map f).isNil = m.isNil := by
  obtain ⟨l⟩ := m
  cases l <;> rfl
theorem has_map (f : β → γ) (m : M β) (k : Int) : (m.map f).has k = m.has k := by
  unfold M.has; rw [es_map, mfind_map]; cases mfind m.es k <;> rfl
theorem get_map (f : β → γ) (z : β) (m : M β) (k : Int) : (m.map f).get (f z) k = f (m.get z k) := by
  unfold M.get; rw [es_map, mfind_map]; cases mfind m.es k <;> rfl
theorem put_map (f : β → γ) (m : M β) (k : Int) (v : β) : (m.map f).put k (f v) = (m.put k v).map f := by
  unfold M.put; rw [es_map, mput_map]; rfl
theorem del_map (f : β → γ) (m : M β) (k : Int) : (m.map f).del k = (m.del k).map f := by
  obtain ⟨l⟩ := m
  cases l with
  | none => rfl
  | some l => exact congrArg (fun x => (⟨some x⟩ : M γ)) (mdel_map f k l)
theorem wipe_map (f : β → γ) (m : M β) : (m.map f).wipe = m.wipe.map f := by
  obtain ⟨l⟩ := m
  cases l <;> rfl
def keys (m : M β) : List Int := m.es.map (·.1)
theorem keys_map (f : β → γ) (m : M β) : (m.map f).keys = m.keys := by unfold M.keys; rw [es_map, List.map_map]; rfl
end M
end
def InnM {α : Type} (D : ND α) (g : M D.R) (w : World) : Prop := ∀ p ∈ g.es, D.inn p.2 w
/-- The map at A, whose elements' rows are read. -/
def MpN {α : Type} (D : ND α) (ag : Bool) (A : Option Addr) (m : M α) (w : World) (o : Nat → Nat) (L F : Nat) : Prop :=
  ∃ g : M D.R, m = g.map D.val ∧ Ft (MpF D.E ag A g) w o L ∧ Ft (InnM D g) w o F
/-- What a lookup gives. -/
def LookIs (P : Program) (mt : Nat) (mV : Value) (k : Int) (v : Value) (hs : Bool) (w : World) : Prop :=
  ∀ ok : Bool, (Instr.lookup mt mV (.int .i64 k) ok).run P w = .ok (if ok then .tuple #[v, .bool hs] else v) w
section
variable {ρ : Option Nat} {ds : List Deferred} {P : Program} {T : Tab} {n : Nat} {a : Act} {e : Env} {w w' W : World} {o o' : Nat → Nat} {L L' F F' : Nat} {Mm : List Nat} {Q : Exit → Act → World → Prop} {K : Act → World → Prop}
  {d : Option Tmp} {ty : TypeId} {pos : String} {af : Array Edge} {gd : Option (Nat × Bool)} {α : Type} {D : ND α} {ag : Bool} {A : Option Addr} {m : M α}
theorem MpN.conv (h : MpN D ag A m w o L F) (h1 : ∀ P : World → Prop, Ft P w o L → Ft P w' o' L') (h2 : ∀ P : World → Prop, Ft P w o F → Ft P w' o' F') : MpN D ag A m w' o' L' F' := by
  obtain ⟨g, e1, e2, e3⟩ := h
  exact ⟨g, e1, h1 _ e2, h2 _ e3⟩
theorem MpN.st (h : MpN D ag A m w o L F) (s : St Mm w o w' o') (hL : L ∉ Mm ∧ F ∉ Mm) : MpN D ag A m w' o' L F := h.conv (fun _ f => f.st s hL.1) (fun _ f => f.st s hL.2)
theorem MpN.relab (h : MpN D ag A m w o L F) (r : Nat → Nat) (hr : (r L, r F) = (L', F')) : MpN D ag A m w (fun b => r (o b)) L' F' :=
  h.conv (fun _ f => f.relab r (Prod.mk.inj hr).1) (fun _ f => f.relab r (Prod.mk.inj hr).2)
theorem MpN.now (h : MpN D ag A m w o L F) : MpN D ag A m w o L F := h
theorem InnM.nil (D : ND α) (w : World) (o : Nat → Nat) (F : Nat) {g : M D.R} (hg : g.es = []) : Ft (InnM D g) w o F := Ft.of_all (fun _ p hp => by rw [hg] at hp; cases hp) _ _ _
theorem MpN.nil (D : ND α) (ag : Bool) (w : World) (o : Nat → Nat) (L F : Nat) : MpN D ag none M.nil w o L F :=
  ⟨M.nil, rfl, Ft.of_all (fun _ => MpF.nil _ _ _) _ _ _, InnM.nil D w o F rfl⟩
theorem MpN.nul (h : MpN D ag A m w o L F) : A.isNone = m.isNil := by
  obtain ⟨g, e1, e2, e3⟩ := h
  rw [e1, M.isNil_map]; exact e2.now.nul
theorem ask_mlenN (ht : TabOK P T) {mt kt et : Nat} (hm : find T.und mt = some (.map kt et)) (h : MpN D ag A m w o L F) {x : Operand} (hx : evo e x = some (mv A)) :
    AskIs P e (Oper.mk d (.call { callee := .builtin .len, args := #[x], argTypes := #[mt] }) ty pos af gd) (.int .i64 (m.length : Int)) w := by
  obtain ⟨g, e1, e2, e3⟩ := h
  rw [e1, M.length_map]; exact ask_mlen ht hm e2.now hx
theorem ask_mnilN (ht : TabOK P T) {mt kt et : Nat} (hm : find T.und mt = some (.map kt et)) (h : MpN D ag A m w o L F) {x : Operand} (hx : evo e x = some (mv A)) :
    AskIs P e (Oper.mk d (.binOp .eql mt x (.const (.map none)) mt) ty pos af gd) (.bool m.isNil) w := by
  obtain ⟨g, e1, e2, e3⟩ := h
  rw [e1, M.isNil_map]; exact ask_mnil ht hm e2.now hx
theorem op_mmakeN {t : Nat} {r : Option Operand} (hr : r = none) (D : ND α) (ag : Bool) (F L : Nat)
    (h : ∀ b w' o', St [] w o w' o' → MpN D ag (some ⟨b, 0, none⟩) (M.new : M α) w' o' L F → K (a.put d (mv (some ⟨b, 0, none⟩))) w') :
    (Oper.mk d (.makeMap t r) ty pos af gd).wpIn (WF ρ) 0 P a w K Q :=
  op_mmake hr D.E ag L fun b w' o' hs hf => h b w' o' hs ⟨M.new, rfl, hf, InnM.nil D w' o' F rfl⟩
theorem op_mputN (ht : TabOK P T) (hk : KnD n ds a e) {mt kt et : Nat} {x y z : Operand} {k : Int} {v : α} {r : D.R}
    (hm : find T.und mt = some (.map kt et)) (hkt : find T.und kt = some (.int .i64)) (hx : evo e x = some (mv A)) (hy : evo e y = some (.int .i64 k)) (hr : Ft (D.inn r) w o F) (hv : D.val r = v) (hz : evo e z = some (ev D.E ag r))
    (hf : MpN D ag A m w o L F) (hF : F ≠ L) (hn : m.isNil = false)
    (h : ∀ w', St [L] w o w' o → MpN D ag A (m.put k v) w' o L F → K (a.put d undef) w') :
    (Oper.mk d (.mapUpdate mt x y z) ty pos af gd).wpIn (WF ρ) 0 P a w K Q := by
  obtain ⟨g, e1, e2, e3⟩ := hf
  subst hv
  refine op_mput ht hk hm hkt hx hy hz e2 (by rw [← M.isNil_map D.val, ← e1]; exact hn) fun w' hs hf' => h w' hs ⟨g.put k r, by rw [e1, M.put_map], hf', ?_⟩
  have hF' : F ∉ [L] := by simp [hF]
  exact ((e3.st hs hF').and (hr.st hs hF')).imp fun W hW p hp => by
    rcases mput_mem (show p ∈ mput g.es k r from hp) with h1 | h1
    · rw [h1]; exact hW.2
    · exact hW.1 p h1
theorem op_mwipeN (ht : TabOK P T) (hk : KnD n ds a e) {mt kt et : Nat} {x : Operand}
    (hm : find T.und mt = some (.map kt et)) (hx : evo e x = some (mv A)) (hf : MpN D ag A m w o L F) (hF : F ≠ L)
    (h : ∀ w', St [L] w o w' o → MpN D ag A m.wipe w' o L F → K (a.put d (.tuple #[])) w') :
    (Oper.mk d (.call { callee := .builtin .clear, args := #[x], argTypes := #[mt] }) ty pos af gd).wpIn (WF ρ) 0 P a w K Q := by
  obtain ⟨g, e1, e2, e3⟩ := hf
  refine op_mwipe ht hk hm hx e2 fun w' hs hf' => h w' hs ⟨g.wipe, by rw [e1, M.wipe_map], hf', InnM.nil D w' o F ?_⟩
  obtain ⟨l⟩ := g
  cases l <;> rfl
theorem op_mdelN (ht : TabOK P T) (hk : KnD n ds a e) {mt kt et : Nat} {x y : Operand} {k : Int}
    (hm : find T.und mt = some (.map kt et)) (hkt : find T.und kt = some (.int .i64)) (hx : evo e x = some (mv A)) (hy : evo e y = some (.int .i64 k)) (hf : MpN D ag A m w o L F) (hF : F ≠ L)
    (h : ∀ w', St [L] w o w' o → MpN D ag A (m.del k) w' o L F → K (a.put d (.tuple #[])) w') :
    (Oper.mk d (.call { callee := .builtin .delete, args := #[x, y], argTypes := #[mt, kt] }) ty pos af gd).wpIn (WF ρ) 0 P a w K Q := by
  obtain ⟨g, e1, e2, e3⟩ := hf
  refine op_mdel ht hk hm hkt hx hy e2 fun w' hs hf' => h w' hs ⟨g.del k, by rw [e1, M.del_map], hf', ?_⟩
  have hF' : F ∉ [L] := by simp [hF]
  exact (e3.st hs hF').imp fun W hW p hp => hW p (by
    obtain ⟨l⟩ := g
    cases l with
    | none => cases hp
    | some l => exact mdel_mem hp)
theorem op_mcloneN (hk : KnD n ds a e) {f : FuncId} {fn : Func} {t : Nat} {args : Array Operand} {ats : Array TypeId} (hf : P.funcs[f]? = some fn) (h1 : (fn.name == "runtime.NumGoroutine") = false) (h2 : fn.body.isNone = true) (h3 : Extern.findNext fn = none) (h4 : Extern.find fn = some Extern.MapsClone.clone)
    (hx : allSome (args.toList.map (evo e)) = some [.iface t (mv A)]) (hn : m.isNil = false) (hm : MpN D ag A m w o L F) (L2 : Nat)
    (h : ∀ b w' o', St [] w o w' o' → MpN D ag (some ⟨b, 0, none⟩) m w' o' L2 F → K (a.put d (.iface t (mv (some ⟨b, 0, none⟩)))) w') :
    (Oper.mk d (.call { callee := .value (.func f), args := args, argTypes := ats }) ty pos af gd).wpIn (WF ρ) 0 P a w K Q := by
  obtain ⟨g, e1, e2, e3⟩ := hm
  exact op_mclone hk hf h1 h2 h3 h4 hx (by rw [← M.isNil_map D.val, ← e1]; exact hn) e2 L2 fun b w' o' hs hf' => h b w' o' hs ⟨g, e1, hf', e3.st hs (by simp)⟩
theorem ask_look2 {mt : Nat} {k : Int} {v : Value} {hs : Bool} {mV : Value} (h : LookIs P mt mV k v hs w) {x y : Operand} (hx : evo e x = some mV) (hy : evo e y = some (.int .i64 k)) :
    AskIs P e (Oper.mk d (.lookup mt x y true) ty pos af gd) (.tuple #[v, .bool hs]) w := by
  intro ρ hρ
  have := h true
  simp only [if_true] at this
  simp [execOp, hρ _ _ hx, hρ _ _ hy, this]
theorem ask_look3 {mt : Nat} {k : Int} {v : Value} {hs : Bool} {mV : Value} (h : LookIs P mt mV k v hs w) {x y : Operand} (hx : evo e x = some mV) (hy : evo e y = some (.int .i64 k)) :
    AskIs P e (Oper.mk d (.lookup mt x y false) ty pos af gd) v w := by
  intro ρ hρ
  have := h false
  simp only [Bool.false_eq_true, if_false] at this
  simp [execOp, hρ _ _ hx, hρ _ _ hy, this]
theorem MpN.at (h : MpN D ag A m w o L F) (ht : TabOK P T) {mt kt et s bb : Nat} {z : Value} (hm : find T.und mt = some (.map kt et)) (hkt : find T.und kt = some (.int .i64)) (hz : find T.inf et = some (s, bb, z)) (zr : D.R) (hzx : z = ev D.E ag zr) (hzi : ∀ W, D.inn zr W) (k : Int) :
    ∃ r : D.R, D.val r = m.get (D.val zr) k ∧ Ft (LookIs P mt (mv A) k (ev D.E ag r) (m.has k)) w o L ∧ Ft (D.inn r) w o F := by
  obtain ⟨g, e1, e2, e3⟩ := h
  refine ⟨g.get zr k, by rw [e1, M.get_map], e2.imp fun W hW ok => ?_, e3.imp fun W hW => ?_⟩
  · rw [e1, M.has_map]
    exact run_lookup ht hm hkt hz hzx hW k ok
  · unfold M.get
    cases hf : mfind g.es k with
    | none => exact hzi W
    | some v =>
      obtain ⟨p, h1, h2⟩ := mfind_mem hf
      have := hW p h1
      rw [h2] at this
      exact this
/-- How many a map has. -/
def MSize (A : Option Addr) (k : Nat) (w : World) : Prop := (A = none ∧ k = 0) ∨ ∃ b es ck, A = some ⟨b, 0, none⟩ ∧ w.heap[b]? = some (.map es ck) ∧ es.size = k
theorem MpN.size (h : MpN D ag A m w o L F) : Ft (MSize A m.length) w o L := by
  obtain ⟨g, e1, e2, e3⟩ := h
  refine e2.imp fun W hW => ?_
  rcases hW with ⟨h1, h2⟩ | ⟨b, l, h1, h2, es, ck, hb, hs, he⟩
  · refine .inl ⟨h1, ?_⟩
    rw [e1, M.length_map, h2]; rfl
  · refine .inr ⟨b, es, ck, h1, hb, ?_⟩
    rw [e1, M.length_map, h2]
    exact MapAt.len (b := b) he
theorem ask_mlenS (ht : TabOK P T) {mt kt et k : Nat} (hm : find T.und mt = some (.map kt et)) (h : MSize A k w) {x : Operand} (hx : evo e x = some (mv A)) :
    AskIs P e (Oper.mk d (.call { callee := .builtin .len, args := #[x], argTypes := #[mt] }) ty pos af gd) (.int .i64 (k : Int)) w := by
  intro ρ hρ
  have hu := run_underlying' (w := w) (ht.u hm)
  rcases h with ⟨rfl, rfl⟩ | ⟨b, es, ck, rfl, hb, rfl⟩
  · simp [execOp, resolve, invoke, builtin, Builtin.len_, hρ _ _ hx, hu, mv, goInt]
  · simp [execOp, resolve, invoke, builtin, Builtin.len_, hρ _ _ hx, hu, mv, goInt, MapKept.run_getObj_map hb]
theorem MpN.row {β : Type} {E : Enc β} {m : M (List β)} (h : MpN (dRows E) false A m w o L F) (ht : TabOK P T) {mt kt et s bb : Nat} (hm : find T.und mt = some (.map kt et)) (hkt : find T.und kt = some (.int .i64)) (hz : find T.inf et = some (s, bb, .slice none 0 0)) (k : Int) :
    ∃ A' c, Ft (LookIs P mt (mv A) k (.slice A' (m.get [] k).length c) (m.has k)) w o L ∧ Ft (RdC E A' (m.get [] k)) w o F ∧ (m.get [] k).length ≤ c := by
  obtain ⟨r, e1, e2, e3⟩ := MpN.at h ht hm hkt hz (⟨none, 0, []⟩ : NR β) rfl (fun W => ⟨fun h_ => absurd h_ (by simp), Nat.le_refl _⟩) k
  obtain ⟨A', c, x⟩ := r
  have e : x = m.get [] k := e1
  subst e
  exact ⟨A', c, e2, e3.imp fun W hW => hW.1, e3.now.2⟩
end
/-! ### What comes in some order -/
open Classical in
/-- f's answer, where it is the same for whatever list of p. -/
noncomputable def ordP {γ : Type} (p : List Int → Prop) (f : List Int → Option γ) : Option γ :=
  if h : ∃ r, ∀ l, p l → f l = some r then some h.choose else none
theorem ordP_at {γ : Type} {p : List Int → Prop} {f : List Int → Option γ} {r : γ} (h : ordP p f = some r) {l : List Int} (hl : p l) : f l = some r := by
  unfold ordP at h
  by_cases hx : ∃ r, ∀ l, p l → f l = some r
  · rw [dif_pos hx] at h
    injection h with h
    rw [← h]; exact hx.choose_spec l hl
  · rw [dif_neg hx] at h; cases h
theorem ordP_of {γ : Type} {p : List Int → Prop} {f : List Int → Option γ} {r : γ} (h : ∀ l, p l → f l = some r) (l0 : List Int) (h0 : p l0) : ordP p f = some r := by
  unfold ordP
  have hx : ∃ r, ∀ l, p l → f l = some r := ⟨r, h⟩
  rw [dif_pos hx]
  have := hx.choose_spec l0 h0
  rw [h l0 h0] at this
  rw [← this]
open Classical in
/-- f's answer, where it is the same for whatever element. -/
noncomputable def anyP {γ : Type} (s : List Int) (f : Int → Option γ) : Option γ :=
  if h : ∃ r, ∀ k ∈ s, f k = some r then some h.choose else none
theorem anyP_at {γ : Type} {s : List Int} {f : Int → Option γ} {r : γ} (h : anyP s f = some r) {k : Int} (hk : k ∈ s) : f k = some r := by
  unfold anyP at h
  by_cases hx : ∃ r, ∀ k ∈ s, f k = some r
  · rw [dif_pos hx] at h
    injection h with h
    rw [← h]; exact hx.choose_spec k hk
  · rw [dif_neg hx] at h; cases h
theorem anyP_of {γ : Type} {s : List Int} {f : Int → Option γ} {r : γ} (h : ∀ k ∈ s, f k = some r) (hs : s ≠ []) : anyP s f = some r := by
  unfold anyP
  have hx : ∃ r, ∀ k ∈ s, f k = some r := ⟨r, h⟩
  rw [dif_pos hx]
  obtain ⟨k0, l, rfl⟩ := List.exists_cons_of_ne_nil hs
  have := hx.choose_spec k0 (by simp)
  rw [h k0 (by simp)] at this
  rw [← this]
end Go.Proofs.XC
