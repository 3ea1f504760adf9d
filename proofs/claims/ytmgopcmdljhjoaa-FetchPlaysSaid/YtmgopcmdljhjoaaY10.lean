/- Words of an own calculus over the model: how a call's frame, rows and boxes go through its operations. -/
import Derived.Test.YtmgopcmdljhjoaaY9
import Derived.Laws.StructEq
import Derived.Great.FillDense
set_option linter.unusedSimpArgs false
set_option linter.unusedVariables false
namespace Go.Proofs.XC
open Go

/-! ### '==' of structs -/
def eqFs (T : Tab) (eq : Nat → Value → Value → Option Bool) (xs ys : Array Value) : List Field → Option Bool
  | [] => some true
  | f :: fs => bif f.name == "_" then eqFs T eq xs ys fs else match partP T f.type xs f.offset, partP T f.type ys f.offset with
    | some a, some b => match eq f.type a b, eqFs T eq xs ys fs with
      | some r, some s => some (r && s)
      | _, _ => none
    | _, _ => none
def eqP (T : Tab) (hs : List Nat) : Nat → Nat → Value → Value → Option Bool
  | 0, _, _, _ => none
  | d + 1, t, x, y => match find T.und t, x, y with
    | some .bool, .bool a, .bool b => some (a == b)
    | some (.int _), .int k a, .int k' b => if k = k' then some (a == b) else none
    | some .string, .string a, .string b => some (a == b)
    | some (.struct fs), .agg xs, .agg ys => bif hs.any (Nat.beq t) then eqFs T (eqP T hs d) xs ys fs.toList else none
    | _, _, _ => none
section
variable {ρ : Option Nat} {ds : List Deferred} {P : Program} {T : Tab} {hs : List Nat} {w : World}
theorem eqFs_sound (ht : TabOK P T) {eq : Nat → Value → Value → Option Bool} {d : Nat} (he : ∀ t x y b, eq t x y = some b → (Op.equalIn d t x y).run P w = .ok b w) {xs ys : Array Value} :
    ∀ (fs : List Field) (b : Bool), eqFs T eq xs ys fs = some b → (Op.eqFields d xs ys fs).run P w = .ok b w
  | [], b, h => by simp only [eqFs, Option.some.injEq] at h; subst h; simp [Op.eqFields]
  | f :: fs, b, h => by
    simp only [eqFs] at h
    cases hn : (f.name == "_") with
    | true =>
      rw [hn] at h
      have hn' : ¬ (f.name ≠ "_") := by simpa using hn
      rw [Op.eqFields, if_neg hn']
      exact eqFs_sound ht he fs b h
    | false =>
      rw [hn] at h
      have hn' : f.name ≠ "_" := by simpa using hn
      simp only [cond_false] at h
      split at h <;> try (simp at h; done)
      rename_i a c ha hc
      split at h <;> simp at h
      rename_i r s hr hs
      subst h
      rw [Op.eqFields]
      simp only [if_pos hn', Sem.run_bind, run_partP ht ha, run_partP ht hc, he _ _ _ _ hr, Result.andThen_ok]
      cases r
      · simp
      · simpa using eqFs_sound ht he fs s hs
theorem eqP_sound (ht : TabOK P T) (hS : ∀ t ∈ hs, P.stoodInHeld t = false) : ∀ (m d : Nat) (t : Nat) (x y : Value) (b : Bool), m ≤ d → eqP T hs m t x y = some b → (Op.equalIn d t x y).run P w = .ok b w
  | 0, _, _, _, _, _, _, h => by simp [eqP] at h
  | m + 1, 0, _, _, _, _, hd, _ => by omega
  | m + 1, d + 1, t, x, y, b, hd, h => by
    simp only [eqP] at h
    split at h
    · rename_i a c hu
      simp only [Option.some.injEq] at h
      subst h
      simp [Op.equalIn, run_underlying' (w := w) (ht.u hu)]
    · rename_i kk k a k' c hu
      split at h <;> simp at h
      rename_i hkk
      subst h; subst hkk
      simp [Op.equalIn, run_underlying' (w := w) (ht.u hu)]
    · rename_i a c hu
      simp only [Option.some.injEq] at h
      subst h
      simp [Op.equalIn, run_underlying' (w := w) (ht.u hu)]
    · rename_i fs xs ys hu
      cases hh : hs.any (Nat.beq t) with
      | false => rw [hh] at h; simp at h
      | true =>
        rw [hh] at h
        obtain ⟨u, hm, hb⟩ := List.any_eq_true.1 hh
        have := Nat.eq_of_beq_eq_true hb
        subst this
        have hf : P.fieldsOf t = fs := by simp [Program.fieldsOf, ht.u hu]
        rw [run_equalIn_struct (P := P) w d t xs ys (by rw [hf]; exact ht.u hu) (hS t hm), hf]
        exact eqFs_sound ht (fun t x y b => eqP_sound ht hS m d t x y b (by omega)) _ _ h
    · simp at h
theorem ask_eq (ht : TabOK P T) (hS : ∀ t ∈ hs, P.stoodInHeld t = false ∧ P.eqGuardType P.depth t = false) {e : Env} {t : Nat} {x y : Operand} {a b : Array Value} {r : Bool} {d ty pos af g} {z : TypeId} (hx : evo e x = some (.agg a)) (hy : evo e y = some (.agg b)) (hm : hs.any (Nat.beq t) = true) (h : eqP T hs 9 t (.agg a) (.agg b) = some r) :
    AskIs P e (Oper.mk d (.binOp .eql t x y z) ty pos af g) (.bool r) w := by
  intro ρ hρ
  obtain ⟨u, hu, hb⟩ := List.any_eq_true.1 hm
  obtain rfl := Nat.eq_of_beq_eq_true hb
  have h1 : (Op.equalIn 10000 t (.agg a) (.agg b)).run P w = .ok r w := eqP_sound ht (fun t h => (hS t h).1) 9 10000 t _ _ r (by decide) h
  simp [execOp, hρ _ _ hx, hρ _ _ hy, run_eqGuard_agg w .eql t x y a b (hS t hu).2, run_eql_struct, h1]
theorem ask_neq (ht : TabOK P T) (hS : ∀ t ∈ hs, P.stoodInHeld t = false ∧ P.eqGuardType P.depth t = false) {e : Env} {t : Nat} {x y : Operand} {a b : Array Value} {r : Bool} {d ty pos af g} {z : TypeId} (hx : evo e x = some (.agg a)) (hy : evo e y = some (.agg b)) (hm : hs.any (Nat.beq t) = true) (h : eqP T hs 9 t (.agg a) (.agg b) = some r) :
    AskIs P e (Oper.mk d (.binOp .neq t x y z) ty pos af g) (.bool (!r)) w := by
  intro ρ hρ
  obtain ⟨u, hu, hb⟩ := List.any_eq_true.1 hm
  obtain rfl := Nat.eq_of_beq_eq_true hb
  have h1 : (Op.equalIn 10000 t (.agg a) (.agg b)).run P w = .ok r w := eqP_sound ht (fun t h => (hS t h).1) 9 10000 t _ _ r (by decide) h
  simp [execOp, hρ _ _ hx, hρ _ _ hy, run_eqGuard_agg w .neq t x y a b (hS t hu).2, run_neq_struct, h1]

/-! ### Several may come up -/
variable {n : Nat} {a : Act} {e : Env} {Q : Exit → Act → World → Prop} {S : World → Prop}
def EachP (f : Nat → Prop) : List Nat → Prop
  | [] => True
  | i :: l => f i ∧ EachP f l
theorem EachP.mem {f : Nat → Prop} : ∀ {l : List Nat}, EachP f l → ∀ i ∈ l, f i
  | [], _, i, h => by simp at h
  | j :: l, hf, i, h => by
    rcases List.mem_cons.1 h with rfl | h
    · exact hf.1
    · exact EachP.mem hf.2 i h
def StepD (ρ : Option Nat) (P : Program) (ops : Array Oper) (Q : Exit → Act → World → Prop) (S : World → Prop) (k : Nat) (ls : Array Bool) (a : Act) (w : World) (i : Nat) : Prop :=
  wpOpIn (WF ρ) 0 P ops Q i (fun a' w' => (lastB ops i = true ∨ S w') ∧ wpD ρ P ops Q S k (ls.setIfInBounds i true) a' w') a w
theorem xd_each {ol : List Oper} {k : Nat} {ls : Array Bool} (is : List Nat) (hr : Region.ready .any ol.toArray ls = is) (hn : is.isEmpty = false) (h : EachP (StepD ρ P ol.toArray Q S k ls a w) is) : wpD ρ P ol.toArray Q S (k + 1) ls a w := by
  subst hr
  exact ⟨fun h0 => (by rw [h0] at hn; cases hn), fun j hj => h.mem j hj⟩
theorem xd_one {ol : List Oper} {k i : Nat} {ls : Array Bool} {o : Oper} (hk : KnD n ds a e) (ho : ol[i]? = some o) (hg : guardP ol e o = some true)
    (h : o.wpIn (WF ρ) 0 P a w (fun a' w' => (lastB ol.toArray i = true ∨ S w') ∧ wpD ρ P ol.toArray Q S k (ls.setIfInBounds i true) a' w') Q) : StepD ρ P ol.toArray Q S k ls a w i := by
  unfold StepD wpOpIn
  have ho' : ol.toArray[i]? = some o := by simpa using ho
  simp only [ho', guardP_sound hk hg, if_true]
  exact h
theorem x_cut {x : Code} (M : Act → World → Prop) (h : x.wpIn (WF ρ) 0 P (Exit.then M Q) a w) (h2 : ∀ a w, M a w → Q .normal a w) : x.wpIn (WF ρ) 0 P Q a w :=
  wpIn_mono h fun e a w he => by cases e <;> first | exact h2 _ _ he | exact he
theorem RdC.at0 {α : Type} {E : Enc α} {ad : Addr} {xs : List α} {d : α} (h : RdC E (some ad) xs w) {i : Int} (hi : 0 ≤ i ∧ i < (xs.length : Int)) {v : Value} (hv : (E.f (rdD d xs i))[0]? = some v) : w.cell? (ad.add (i.toNat * E.sz)) = some v := by
  have := RdC.at (d := d) h hi (j := 0) hv
  rw [add_add] at this
  simpa using this

theorem zip_swap {α : Type} : ∀ (vs : List α) (k : Nat), (List.range' k vs.length).zip vs = (vs.zipIdx k).map fun x => (x.2, x.1)
  | [], _ => rfl
  | v :: vs, k => by simp [List.range'_succ, zip_swap vs (k + 1)]
variable {w' : World} {o o' : Nat → Nat} {K : Act → World → Prop} {d : Option Tmp} {ty : TypeId} {pos : String} {af : Array Edge} {g : Option (Nat × Bool)}
theorem op_slice (ht : TabOK P T) (hk : KnD n ds a e) {t el len s b : Nat} {z : Value} {parts : Array (Nat × Operand)} {vs : List Value} {cs : List Value}
    (hu : find T.und t = some (.slice el)) (hi : find T.inf el = some (s, b, z)) (hv : allSome (parts.toList.map fun p => evo e p.2) = some vs) (hsz : Nat.ble (len * s) 16777216 = true)
    (hp : parts.toList.map (·.1) = List.range' 0 len) (hlen : vs.length = len) (h1 : vs.all (fun v => Nat.beq v.cells.size s) = true) (hs : Nat.ble 1 s = true) (hc : vs.flatMap (fun v => v.cells.toList) = cs) (L : Nat)
    (h : ∀ (b : Nat) w' o', St [] w o w' o' → Ft (Bx b el cs) w' o' L → K (a.put d (.slice (some ⟨b, 0, none⟩) len len)) w') :
    (Oper.mk d (.buildSlice t len parts) ty pos af g).wpIn (WF ρ) 0 P a w K Q := by
  refine op_buildSlice (o := o) ht hk hu hi hv hsz ?_ L h
  have hs' : 0 < s := Nat.le_of_ble_eq_true hs
  rw [hp, ← hlen, zip_swap, Great.fill_whole hs' vs _ (fun v hv => Nat.eq_of_beq_eq_true (List.all_eq_true.1 h1 v hv)) (by simp), hc]
end
end Go.Proofs.XC
