/- Words of an own calculus over the model: how a call's frame, rows and boxes go through its operations. -/
import Derived.Test.YtmgopcmdljhjoaaY7
import Derived.OrdersHeld
import Derived.KernelRfl
set_option linter.unusedSimpArgs false
set_option linter.unusedVariables false
namespace Go.Proofs.XC
open Go

/-! ### In a round, too -/
section
variable {ρ : Option Nat} {ds : List Deferred} {P : Program} {ops : Array Oper} {Q : Exit → Act → World → Prop} {S : World → Prop}
def noDefer (ops : Array Oper) : Bool := ops.toList.all fun o => match o.op with | .defer _ => false | _ => true
theorem noDefer_spec {ops : Array Oper} (h : noDefer ops = true) {j : Nat} {o : Oper} (hj : ops[j]? = some o) : ∀ c, o.op ≠ .defer c := by
  intro c hc
  have := List.all_eq_true.1 h o (by rw [Array.mem_toList_iff]; exact Array.mem_of_getElem? hj)
  simp [hc] at this
theorem YieldsIf.wpOpW {i : Nat} {o : Oper} {v : Value} {a : Act} (hi : ops[i]? = some o) (hy : YieldsIf P ops S o v a)
    {K : Act → World → Prop} {w : World} (hS : S w) (h : K (a.put o.dst v) w) : wpOpIn (WF ρ) 0 P ops Q i K a w := by
  unfold Go.wpOpIn
  simp only [hi]
  rcases hy with ⟨hw, hv⟩ | ⟨hw, rfl⟩
  · simp only [hw, if_true]; exact wf_value (hv w hS) h
  · simp only [hw, Bool.false_eq_true, if_false]; exact ⟨fun _ _ => trivial, h⟩
theorem wpOpIn_putIf {j : Nat} {oi oj : Oper} {v : Value} (hj : ops[j]? = some oj) (hnd : ∀ c, oj.op ≠ .defer c) (hap : oi.apart ops oj = true)
    (hsi : ∀ cs b, oi.op ≠ .select cs b) (hsj : ∀ cs b, oj.op ≠ .select cs b)
    (hQ : ∀ c a w, Q (.panic c) (a.put oi.dst v) w → Q (.panic c) a w) {K : Act → World → Prop} {a : Act} {w : World}
    (hy : YieldsIf P ops S oi v a) (h : wpOpIn (WF ρ) 0 P ops Q j K (a.put oi.dst v) w) :
    wpOpIn (WF ρ) 0 P ops Q j (fun a' w' => YieldsIf P ops S oi v a' ∧ K (a'.put oi.dst v) w') a w := by
  obtain ⟨h1, h2, h3⟩ := Oper.apart_spec hap
  have keep : ∀ (a : Act), YieldsIf P ops S oi v a → ∀ u, YieldsIf P ops S oi v (a.put oj.dst u) := fun a hy u =>
    hy.of_same (execOp_put oi hsi a oj.dst u h3) (wanted_put oi a oj.dst u h3)
  have keepD : ∀ d, YieldsIf P ops S oi v { a with defers := d :: a.defers } := fun d => hy.of_same rfl rfl
  unfold wpOpIn at *
  simp only [hj] at *
  rw [wanted_put oj a oi.dst v h1] at h
  split
  · rename_i hw
    simp only [hw, if_true] at h
    unfold Oper.wpIn at *
    refine ⟨fun _ _ => trivial, ?_⟩
    have h := h.2
    rw [Oper.semAt_eq _ _ _ hnd, execOp_put oj hsj a oi.dst v h1] at h
    rw [Oper.semAt_eq _ _ _ hnd]
    generalize (execOp a.eval oj).run P w = r at *
    cases r with
    | ok x w' =>
      cases x <;> simp only [Oper.uponIn] at h ⊢
      case value u => exact ⟨keep a hy u, by rw [← Act.put_comm a v u h2]; exact h⟩
      case skip => exact ⟨keep a hy _, by rw [← Act.put_comm a v undef h2]; exact h⟩
      case defer d =>
        refine ⟨keep _ (keepD d) _, ?_⟩
        rw [← Act.put_comm _ v undef h2, ← Act.put_defers]
        exact h
      case enter f args =>
        refine ⟨h.1, CallsIn.mono h.2 fun e w'' he => ?_⟩
        cases e with
        | returned u => exact ⟨keep a hy u, by rw [← Act.put_comm a v u h2]; exact he⟩
        | panicked c => exact hQ _ _ _ he
        | outgrown => exact he
      case row row args => exact ⟨h.1, RowsIn.mono h.2 fun u w'' he => ⟨keep a hy u, by rw [← Act.put_comm a v u h2]; exact he⟩⟩
      case round l f tmps assign body =>
        refine ⟨h.1, RoundIn.mono h.2 fun e w'' he => ?_⟩
        cases e with
        | returned u => exact ⟨keep a hy u, by rw [← Act.put_comm a v u h2]; exact he⟩
        | panicked c => exact hQ _ _ _ he
        | outgrown => exact he
    | halt x w' =>
      cases x <;> simp only [Oper.uponIn] at h ⊢
      case panic u => exact hQ _ _ _ h
  · rename_i hw
    simp only [hw] at h
    exact ⟨fun _ _ => trivial, keep a hy _, by rw [← Act.put_comm a v undef h2]; exact h.2⟩
end

/-! ### Regions that draw their order: S holds till all have come up -/
section
variable {ρ : Option Nat} {ds : List Deferred} {P : Program} {T : Tab} {n : Nat} {ops : Array Oper} {Q : Exit → Act → World → Prop} {S : World → Prop}
/-- This operation comes up last. -/
def lastB (ops : Array Oper) (j : Nat) : Bool :=
  match ops[j]? with
  | some oj => (List.range ops.size).all fun m => Nat.beq m j || oj.after.any fun e => Region.binds .any e && Nat.beq e.on m
  | none => false
theorem lastB_spec {j i : Nat} {oj : Oper} (hj : ops[j]? = some oj) (h : lastB ops j = true) (hi : i < ops.size) (hij : j ≠ i) : ∃ e ∈ oj.after, Region.binds .any e = true ∧ e.on = i := by
  unfold lastB at h
  simp only [hj] at h
  have h1 := List.all_eq_true.1 h i (List.mem_range.2 hi)
  simp only [Bool.or_eq_true] at h1
  rcases h1 with h1 | h1
  · exact absurd (Nat.eq_of_beq_eq_true h1).symm hij
  · obtain ⟨e, he, hb⟩ := Array.any_eq_true'.1 h1
    simp only [Bool.and_eq_true] at hb
    exact ⟨e, he, hb.1, Nat.eq_of_beq_eq_true hb.2⟩
def wpD (ρ : Option Nat) (P : Program) (ops : Array Oper) (Q : Exit → Act → World → Prop) (S : World → Prop) : Nat → Array Bool → Act → World → Prop
  | 0, ls, a, w => Region.ready .any ops ls = [] ∧ Q .normal a w
  | k + 1, ls, a, w => (Region.ready .any ops ls = [] → Q .normal a w) ∧
    ∀ i ∈ Region.ready .any ops ls, wpOpIn (WF ρ) 0 P ops Q i (fun a' w' => (lastB ops i = true ∨ S w') ∧ wpD ρ P ops Q S k (ls.setIfInBounds i true) a' w') a w
theorem wpD_any : ∀ (k : Nat) (ls : Array Bool) (a : Act) (w : World), wpD ρ P ops Q S k ls a w → wpAnyIn (WF ρ) 0 P .any ops Q k ls a w
  | 0, _, _, _, h => h
  | k + 1, _, _, _, h => ⟨h.1, fun i hi => wpOpIn_mono (fun a' w' h' => wpD_any k _ a' w' h'.2) (h.2 i hi)⟩
theorem wpD_begin {id : Nat} {a : Act} {w : World} (hm : P.follows .mixedOrders = true) (h : wpD ρ P ops Q S ops.size (Array.replicate ops.size false) a { w with drawn := w.drawn + 1 }) : (Code.region id ops true).wpIn (WF ρ) 0 P Q a w :=
  wpIn_region_any hm (wpD_any _ _ _ _ h)
theorem wpD_first {i : Nat} {oi : Oper} {v : Value} (hi : ops[i]? = some oi) (hsel : ∀ (j : Nat) (o : Oper) cs b, ops[j]? = some o → o.op ≠ .select cs b) (hnd : noDefer ops = true) (hQ : ∀ c a w, ¬ Q (.panic c) a w) :
    ∀ (k : Nat) (ls : Array Bool) (a : Act) (w : World),
      (∀ j oj, ops[j]? = some oj → j ≠ i → ls.getD j true = false → (∀ e ∈ oj.after, Region.binds .any e = true → e.on ≠ i) → oi.apart ops oj = true) →
      i ∈ Region.ready .any ops ls → YieldsIf P ops S oi v a → S w → wpD ρ P ops Q S k (ls.setIfInBounds i true) (a.put oi.dst v) w → wpD ρ P ops Q S (k + 1) ls a w := by
  intro k
  have mine : ∀ (k : Nat) (ls : Array Bool) (a : Act) (w : World), YieldsIf P ops S oi v a → S w → wpD ρ P ops Q S k (ls.setIfInBounds i true) (a.put oi.dst v) w →
      wpOpIn (WF ρ) 0 P ops Q i (fun a' w' => (lastB ops i = true ∨ S w') ∧ wpD ρ P ops Q S k (ls.setIfInBounds i true) a' w') a w :=
    fun k ls a w hy hS h => YieldsIf.wpOpW hi hy hS ⟨.inr hS, h⟩
  induction k with
  | zero =>
    intro ls a w _ hr hy hS h
    refine ⟨fun h0 => (by rw [h0] at hr; cases hr), fun j hj => ?_⟩
    by_cases hji : j = i
    · subst hji; exact mine 0 ls a w hy hS h
    · have h2 := ready_mono hj hji
      rw [h.1] at h2
      cases h2
  | succ k ih =>
    intro ls a w hfree hr hy hS h
    refine ⟨fun h0 => (by rw [h0] at hr; cases hr), fun j hj => ?_⟩
    by_cases hji : j = i
    · subst hji; exact mine (k + 1) ls a w hy hS h
    · have h1 := h.2 j (ready_mono hj hji)
      obtain ⟨hjun, oj, hoj, hall⟩ := mem_ready.1 hj
      have hnot : ∀ e ∈ oj.after, Region.binds .any e = true → e.on ≠ i := fun e he hb heq => by
        have h1 := hall e he hb
        have h0 := (mem_ready.1 hr).1
        rw [heq] at h1
        rcases Nat.lt_or_ge i ls.size with h' | h'
        · simp [h'] at h0 h1; rw [h0] at h1; cases h1
        · simp [Array.getElem?_eq_none h'] at h1
      have h2 := wpOpIn_putIf hoj (noDefer_spec hnd hoj) (hfree j oj hoj hji hjun hnot) (fun cs b => hsel i oi cs b hi) (fun cs b => hsel j oj cs b hoj) (fun c a w hq => absurd hq (hQ c _ w)) hy h1
      have hfree' : ∀ k ok, ops[k]? = some ok → k ≠ i → (ls.setIfInBounds j true).getD k true = false → (∀ e ∈ ok.after, Region.binds .any e = true → e.on ≠ i) → oi.apart ops ok = true := fun k ok hk hki hun hno => by
        refine hfree k ok hk hki ?_ hno
        by_cases hjk : j = k
        · subst hjk; exact hjun
        · rw [getD_set_ne true hjk] at hun; exact hun
      have hri : i ∈ Region.ready .any ops (ls.setIfInBounds j true) := ready_mono hr (Ne.symm hji)
      refine wpOpIn_mono (fun a' w' h3 => ?_) h2
      have hS' : S w' := by
        rcases h3.2.1 with h0 | h0
        · obtain ⟨e, he, hb, hei⟩ := lastB_spec hoj h0 (Array.getElem?_eq_some_iff.1 hi).1 hji
          exact absurd hei (hnot e he hb)
        · exact h0
      refine ⟨.inr hS', ih (ls.setIfInBounds j true) a' w' hfree' hri h3.1 hS' ?_⟩
      rw [Array.setIfInBounds_comm _ _ hji]
      exact h3.2.2

/-! ### Many quiet operations at once -/
def takeB (ops : Array Oper) : List Nat → Array Bool → Option (Array Bool)
  | [], ls => some ls
  | i :: is, ls => bif Region.free .any ops ls i && (Region.ready .any ops ls).contains i then takeB ops is (ls.setIfInBounds i true) else none
def runI (P : Program) (T : Tab) (n : Nat) (ops : List Oper) : List Nat → Env → List Value → List Cond → Option (Env × List Cond)
  | [], e, _, cs => some (e, cs)
  | i :: is, e, lv, cs => match ops[i]? with
    | some o => match guardP ops e o with
      | some true => match quietP P T e o lv with
        | some (v, c, lv') => match putE n o.dst v e with
          | some e' => runI P T n ops is e' lv' (cs ++ c)
          | none => none
        | none => none
      | some false => match putE n o.dst undef e with
        | some e' => runI P T n ops is e' lv cs
        | none => none
      | none => none
    | none => none
theorem wpD_takes (ht : TabOK P T) {ol : List Oper} (hs : (Region.noSelect ol.toArray && noDefer ol.toArray) = true) (hQ : ∀ c a w, ¬ Q (.panic c) a w) : ∀ (is : List Nat) (k : Nat) (ls ls' : Array Bool) (a : Act) (w : World) (e e' : Env) (lv : List Value) (cs0 cs : List Cond),
    KnD n ds a e → takeB ol.toArray is ls = some ls' → runI P T n ol is e lv cs0 = some (e', cs) → S w → ∃ cs1, cs = cs0 ++ cs1 ∧
      ((∀ w, S w → ConjW w cs1) → (∀ a', KnD n ds a' e' → wpD ρ P ol.toArray Q S k ls' a' w) → wpD ρ P ol.toArray Q S (k + is.length) ls a w)
  | [], k, ls, ls', a, w, e, e', lv, cs0, cs, hk, hb, hr, hS => by
    simp only [takeB, Option.some.injEq] at hb
    simp only [runI, Option.some.injEq, Prod.mk.injEq] at hr
    obtain ⟨rfl, rfl⟩ := hr
    subst hb
    exact ⟨[], by simp, fun _ h => h a hk⟩
  | i :: is, k, ls, ls', a, w, e, e', lv, cs0, cs, hk, hb, hr, hS => by
    simp only [takeB] at hb
    cases hfb : (Region.free .any ol.toArray ls i && (Region.ready .any ol.toArray ls).contains i) with
    | false => rw [hfb] at hb; simp at hb
    | true =>
      rw [hfb] at hb
      simp only [cond_true] at hb
      simp only [Bool.and_eq_true] at hfb
      simp only [runI] at hr
      split at hr
      · rename_i o ho
        have ho' : ol.toArray[i]? = some o := by simpa using ho
        have hrd : i ∈ Region.ready .any ol.toArray ls := by simpa using hfb.2
        have hfree := fun j oj hj hne hun hno => Region.free_spec (md := .any) ho' hfb.1 j oj hj hne hun hno
        split at hr
        · rename_i hg
          split at hr
          · rename_i v c lv' hq
            split at hr
            · rename_i e1 hp
              obtain ⟨cs1, rfl, h1⟩ := wpD_takes ht hs hQ is k _ ls' (a.put o.dst v) w e1 e' lv' (cs0 ++ c) cs (hk.putE hp) hb hr hS
              refine ⟨c ++ cs1, by simp, fun hc h => ?_⟩
              exact wpD_first ho' (Region.noSelect_spec (Bool.and_eq_true_iff.1 hs).1) (Bool.and_eq_true_iff.1 hs).2 hQ (k + is.length) ls a w hfree hrd (.inl ⟨guardP_sound hk hg, fun w hw => quietP_sound ht hk hq (ConjW.append (hc w hw)).1⟩) hS (h1 (fun w hw => (ConjW.append (hc w hw)).2) h)
            · simp at hr
          · simp at hr
        · rename_i hg
          split at hr
          · rename_i e1 hp
            obtain ⟨cs1, rfl, h1⟩ := wpD_takes ht hs hQ is k _ ls' (a.put o.dst undef) w e1 e' lv cs0 cs (hk.putE hp) hb hr hS
            refine ⟨cs1, rfl, fun hc h => ?_⟩
            exact wpD_first ho' (Region.noSelect_spec (Bool.and_eq_true_iff.1 hs).1) (Bool.and_eq_true_iff.1 hs).2 hQ (k + is.length) ls a w hfree hrd (.inr ⟨guardP_sound hk hg, rfl⟩) hS (h1 hc h)
          · simp at hr
        · simp at hr
      · simp at hr
def runIK (P : Program) (T : Tab) (n : Nat) (ops : List Oper) (is : List Nat) (e : Env) (lv : List Value) (ks : List Nat) : Option (Env × List Cond) :=
  match runI P T n ops is e lv [] with
  | some (e', cs) => match pick e' ks with
    | some r => some (r, cs)
    | none => none
  | none => none
/-- Quiet operations of a region that draws, in an order of ours. -/
theorem xd_take (ht : TabOK P T) {a : Act} {w : World} {e e' : Env} {ol : List Oper} {k m : Nat} {is ks : List Nat} {ls ls' : Array Bool} {lv : List Value} {cs : List Cond} (hk : KnD n ds a e) (hb : takeB ol.toArray is ls = some ls') (hm : k + is.length = m)
    (hr : runIK P T n ol is e lv ks = some (e', cs)) (hs : (Region.noSelect ol.toArray && noDefer ol.toArray) = true) (hQ : ∀ c a w, ¬ Q (.panic c) a w) (hS : S w) (hc : ∀ w, S w → ConjW w cs)
    (h : ∀ a', KnD n ds a' e' → wpD ρ P ol.toArray Q S k ls' a' w) : wpD ρ P ol.toArray Q S m ls a w := by
  subst hm
  unfold runIK at hr
  split at hr
  · rename_i e1 cs1 hr1
    split at hr <;> simp at hr
    rename_i r hp
    obtain ⟨rfl, rfl⟩ := hr
    obtain ⟨cs2, he, h1⟩ := wpD_takes ht hs hQ is k ls ls' a w e e1 lv [] cs1 hk hb hr1 hS
    simp only [List.nil_append] at he
    subst he
    exact h1 hc fun a' hk' => h a' (hk'.sub (pick_sub hp))
  · simp at hr
/-- The one that may come up now. -/
theorem xd_op {a : Act} {w : World} {e : Env} {ol : List Oper} {k i : Nat} {ls : Array Bool} {o : Oper} (hk : KnD n ds a e) (hr : Region.ready .any ol.toArray ls = [i]) (ho : ol[i]? = some o) (hg : guardP ol e o = some true)
    (h : o.wpIn (WF ρ) 0 P a w (fun a' w' => (lastB ol.toArray i = true ∨ S w') ∧ wpD ρ P ol.toArray Q S k (ls.setIfInBounds i true) a' w') Q) : wpD ρ P ol.toArray Q S (k + 1) ls a w := by
  refine ⟨fun h0 => (by rw [hr] at h0; cases h0), fun j hj => ?_⟩
  rw [hr, List.mem_singleton] at hj
  subst hj
  unfold wpOpIn
  have ho' : ol.toArray[j]? = some o := by simpa using ho
  simp only [ho', guardP_sound hk hg, if_true]
  exact h
theorem xd_skip {a : Act} {w : World} {e e' : Env} {ol : List Oper} {k i : Nat} {ls : Array Bool} {o : Oper} (hk : KnD n ds a e) (hr : Region.ready .any ol.toArray ls = [i]) (ho : ol[i]? = some o) (hg : guardP ol e o = some false) (hp : putE n o.dst undef e = some e') (hS : S w)
    (h : ∀ a', KnD n ds a' e' → wpD ρ P ol.toArray Q S k (ls.setIfInBounds i true) a' w) : wpD ρ P ol.toArray Q S (k + 1) ls a w := by
  refine ⟨fun h0 => (by rw [hr] at h0; cases h0), fun j hj => ?_⟩
  rw [hr, List.mem_singleton] at hj
  subst hj
  unfold wpOpIn
  have ho' : ol.toArray[j]? = some o := by simpa using ho
  simp only [ho', guardP_sound hk hg]
  exact ⟨fun _ _ => trivial, .inr hS, h _ (hk.putE hp)⟩
theorem xd_done {a : Act} {w : World} {ol : List Oper} {k : Nat} {ls : Array Bool} (hr : Region.ready .any ol.toArray ls = []) (h : Q .normal a w) : wpD ρ P ol.toArray Q S k ls a w := by
  cases k with
  | zero => exact ⟨hr, h⟩
  | succ k => exact ⟨fun _ => h, by rw [hr]; simp⟩
theorem St.drew (M : List Nat) (w : World) (o : Nat → Nat) : St M w o w.drew o := ⟨rfl, rfl, rfl, Nat.le_refl _, fun _ _ _ => rfl, fun _ _ _ => rfl⟩
theorem xd_begin {id : Nat} {a : Act} {w : World} {o : Nat → Nat} {ol : List Oper} {m : Nat} {ls : Array Bool} (S : World → Prop) (hm : P.follows .mixedOrders = true) (hn : ol.toArray.size = m) (hls : Array.replicate m false = ls)
    (h : ∀ w', St [] w o w' o → wpD ρ P ol.toArray Q S m ls a w') : (Code.region id ol.toArray true).wpIn (WF ρ) 0 P Q a w := by
  subst hn; subst hls
  exact wpD_begin hm (h _ (St.drew [] w o))
/-- A stretch that cannot panic. -/
def NP (Q : Exit → Act → World → Prop) : Prop := ∀ c a w, ¬ Q (.panic c) a w
theorem np_then {K : Act → World → Prop} (h : NP Q) : NP (Exit.then K Q) := h
theorem np_blk {i : Nat} (h : NP Q) : NP (Exit.inBlock i Q) := h
theorem np_body {fn : Func} {Φ : Value → World → Prop} : NP (bodyPost P fn (Ret Φ)) := by
  rintro c a w ⟨_, v, hv, _⟩
  cases hv
end
end Go.Proofs.XC
