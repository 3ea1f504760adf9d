/- Words of an own calculus over the model: how a call's frame, rows and boxes go through its operations. -/
import Derived.Test.YtpciioffkjpieaaGreatDoorZ1
import Derived.Laws.StructEq
import Derived.Great.FillDense
import Derived.WalkKit
import Derived.ProofKit
import Derived.OpenShut
import Derived.ShutString
import Derived.ChangeOld
import Derived.Below
import Derived.Carry
import Derived.SizedLaws
import Derived.Lib.ConvBytes
import Derived.LaidLaws
import Derived.MakeChecks
import Derived.RangeFuncLeaves
import Derived.Lib.AppendStr
import Derived.Test.YtpciioffkjpieaaGreatDoorZ1
import Derived.Laws.BitsLemmas
import Derived.Scope
import Derived.Lib.AppendZeros
set_option linter.unusedSimpArgs false
set_option linter.unusedVariables false
namespace Go.Proofs.XC
open Go

/-! ### '==' of structs -/
def eqFs (T : Tab) (eq : Nat → Value → Value → Option Bool) (xs ys : Array Value) : List Field → Option Bool
  | [] => some true
  | f :: fs => bif f.name == "_" then eqFs T eq xs ys fs else match partP T f.type xs f.offset, partP T f.type ys f.offset with
    | some a, some b => match eq f.type a b, eqFs T eq xs ys fs with
      | some r, some s => some (r && s)
      | _, _ => none
    | _, _ => none
def eqP (T : Tab) (hs : List Nat) : Nat → Nat → Value → Value → Option Bool
  | 0, _, _, _ => none
  | d + 1, t, x, y => match find T.und t, x, y with
    | some .bool, .bool a, .bool b => some (a == b)
    | some (.int _), .int k a, .int k' b => if k = k' then some (a == b) else none
    | some .string, .string a, .string b => some (a == b)
    | some (.struct fs), .agg xs, .agg ys => bif hs.any (Nat.beq t) then eqFs T (eqP T hs d) xs ys fs.toList else none
    | _, _, _ => none
section
variable {ρ : Option Nat} {ds : List Deferred} {P : Program} {T : Tab} {hs : List Nat} {w : World}
theorem eqFs_sound (ht : TabOK P T) {eq : Nat → Value → Value → Option Bool} {d : Nat} (he : ∀ t x y b, eq t x y = some b → (Op.equalIn d t x y).run P w = .ok b w) {xs ys : Array Value} :
    ∀ (fs : List Field) (b : Bool), eqFs T eq xs ys fs = some b → (Op.eqFields d xs ys fs).run P w = .ok b w
  | [], b, h => by simp only [eqFs, Option.some.injEq] at h; subst h; simp [Op.eqFields]
  | f :: fs, b, h => by
    simp only [eqFs] at h
    cases hn : (f.name == "_") with
    | true =>
      rw [hn] at h
      have hn' : ¬ (f.name ≠ "_") := by simpa using hn
      rw [Op.eqFields, if_neg hn']
      exact eqFs_sound ht he fs b h
    | false =>
      rw [hn] at h
      have hn' : f.name ≠ "_" := by simpa using hn
      simp only [cond_false] at h
      split at h <;> try (simp at h; done)
      rename_i a c ha hc
      split at h <;> simp at h
      rename_i r s hr hs
      subst h
      rw [Op.eqFields]
      simp only [if_pos hn', Sem.run_bind, run_partP ht ha, run_partP ht hc, he _ _ _ _ hr, Result.andThen_ok]
      cases r
      · simp
      · simpa using eqFs_sound ht he fs s hs
theorem eqP_sound (ht : TabOK P T) (hS : ∀ t ∈ hs, P.stoodInHeld t = false) : ∀ (m d : Nat) (t : Nat) (x y : Value) (b : Bool), m ≤ d → eqP T hs m t x y = some b → (Op.equalIn d t x y).run P w = .ok b w
  | 0, _, _, _, _, _, _, h => by simp [eqP] at h
  | m + 1, 0, _, _, _, _, hd, _ => by omega
  | m + 1, d + 1, t, x, y, b, hd, h => by
    simp only [eqP] at h
    split at h
    · rename_i a c hu
      simp only [Option.some.injEq] at h
      subst h
      simp [Op.equalIn, run_underlying' (w := w) (ht.u hu)]
    · rename_i kk k a k' c hu
      split at h <;> simp at h
      rename_i hkk
      subst h; subst hkk
      simp [Op.equalIn, run_underlying' (w := w) (ht.u hu)]
    · rename_i a c hu
      simp only [Option.some.injEq] at h
      subst h
      simp [Op.equalIn, run_underlying' (w := w) (ht.u hu)]
    · rename_i fs xs ys hu
      cases hh : hs.any (Nat.beq t) with
      | false => rw [hh] at h; simp at h
      | true =>
        rw [hh] at h
        obtain ⟨u, hm, hb⟩ := List.any_eq_true.1 hh
        have := Nat.eq_of_beq_eq_true hb
        subst this
        have hf : P.fieldsOf t = fs := by simp [Program.fieldsOf, ht.u hu]
        rw [run_equalIn_struct (P := P) w d t xs ys (by rw [hf]; exact ht.u hu) (hS t hm), hf]
        exact eqFs_sound ht (fun t x y b => eqP_sound ht hS m d t x y b (by omega)) _ _ h
    · simp at h
theorem ask_eq (ht : TabOK P T) (hS : ∀ t ∈ hs, P.stoodInHeld t = false ∧ P.eqGuardType P.depth t = false) {e : Env} {t : Nat} {x y : Operand} {a b : Array Value} {r : Bool} {d ty pos af g} {z : TypeId} (hx : evo e x = some (.agg a)) (hy : evo e y = some (.agg b)) (hm : hs.any (Nat.beq t) = true) (h : eqP T hs 9 t (.agg a) (.agg b) = some r) :
    AskIs P e (Oper.mk d (.binOp .eql t x y z) ty pos af g) (.bool r) w := by
  intro ρ hρ
  obtain ⟨u, hu, hb⟩ := List.any_eq_true.1 hm
  obtain rfl := Nat.eq_of_beq_eq_true hb
  have h1 : (Op.equalIn 10000 t (.agg a) (.agg b)).run P w = .ok r w := eqP_sound ht (fun t h => (hS t h).1) 9 10000 t _ _ r (by decide) h
  simp [execOp, hρ _ _ hx, hρ _ _ hy, run_eqGuard_agg w .eql t x y a b (hS t hu).2, run_eql_struct, h1]
/-! ### Several may come up -/
variable {n : Nat} {a : Act} {e : Env} {Q : Exit → Act → World → Prop} {S : World → Prop}
def EachP (f : Nat → Prop) : List Nat → Prop
  | [] => True
  | i :: l => f i ∧ EachP f l
theorem EachP.mem {f : Nat → Prop} : ∀ {l : List Nat}, EachP f l → ∀ i ∈ l, f i
  | [], _, i, h => by simp at h
  | j :: l, hf, i, h => by
    rcases List.mem_cons.1 h with rfl | h
    · exact hf.1
    · exact EachP.mem hf.2 i h
def StepD (ρ : Option Nat) (P : Program) (ops : Array Oper) (Q : Exit → Act → World → Prop) (S : World → Prop) (k : Nat) (ls : Array Bool) (a : Act) (w : World) (i : Nat) : Prop :=
  wpOpIn (WF ρ) 0 P ops Q i (fun a' w' => (lastB ops i = true ∨ S w') ∧ wpD ρ P ops Q S k (ls.setIfInBounds i true) a' w') a w
theorem xd_each {ol : List Oper} {k : Nat} {ls : Array Bool} (is : List Nat) (hr : Region.ready .any ol.toArray ls = is) (hn : is.isEmpty = false) (h : EachP (StepD ρ P ol.toArray Q S k ls a w) is) : wpD ρ P ol.toArray Q S (k + 1) ls a w := by
  subst hr
  exact ⟨fun h0 => (by rw [h0] at hn; cases hn), fun j hj => h.mem j hj⟩
theorem xd_one {ol : List Oper} {k i : Nat} {ls : Array Bool} {o : Oper} (hk : KnD n ds a e) (ho : ol[i]? = some o) (hg : guardP ol e o = some true)
    (h : o.wpIn (WF ρ) 0 P a w (fun a' w' => (lastB ol.toArray i = true ∨ S w') ∧ wpD ρ P ol.toArray Q S k (ls.setIfInBounds i true) a' w') Q) : StepD ρ P ol.toArray Q S k ls a w i := by
  unfold StepD wpOpIn
  have ho' : ol.toArray[i]? = some o := by simpa using ho
  simp only [ho', guardP_sound hk hg, if_true]
  exact h
theorem x_cut {x : Code} (M : Act → World → Prop) (h : x.wpIn (WF ρ) 0 P (Exit.then M Q) a w) (h2 : ∀ a w, M a w → Q .normal a w) : x.wpIn (WF ρ) 0 P Q a w :=
  wpIn_mono h fun e a w he => by cases e <;> first | exact h2 _ _ he | exact he
theorem RdC.at0 {α : Type} {E : Enc α} {ad : Addr} {xs : List α} {d : α} (h : RdC E (some ad) xs w) {i : Int} (hi : 0 ≤ i ∧ i < (xs.length : Int)) {v : Value} (hv : (E.f (rdD d xs i))[0]? = some v) : w.cell? (ad.add (i.toNat * E.sz)) = some v := by
  have := RdC.at (d := d) h hi (j := 0) hv
  rw [add_add] at this
  simpa using this

theorem zip_swap {α : Type} : ∀ (vs : List α) (k : Nat), (List.range' k vs.length).zip vs = (vs.zipIdx k).map fun x => (x.2, x.1)
  | [], _ => rfl
  | v :: vs, k => by simp [List.range'_succ, zip_swap vs (k + 1)]
variable {w' : World} {o o' : Nat → Nat} {K : Act → World → Prop} {d : Option Tmp} {ty : TypeId} {pos : String} {af : Array Edge} {g : Option (Nat × Bool)}
theorem op_slice (ht : TabOK P T) (hk : KnD n ds a e) {t el len s b : Nat} {z : Value} {parts : Array (Nat × Operand)} {vs : List Value} {cs : List Value}
    (hu : find T.und t = some (.slice el)) (hi : find T.inf el = some (s, b, z)) (hv : allSome (parts.toList.map fun p => evo e p.2) = some vs) (hsz : Nat.ble (len * s) 16777216 = true)
    (hp : parts.toList.map (·.1) = List.range' 0 len) (hlen : vs.length = len) (h1 : vs.all (fun v => Nat.beq v.cells.size s) = true) (hs : Nat.ble 1 s = true) (hc : vs.flatMap (fun v => v.cells.toList) = cs) (L : Nat)
    (h : ∀ (b : Nat) w' o', St [] w o w' o' → Ft (Bx b el cs) w' o' L → K (a.put d (.slice (some ⟨b, 0, none⟩) len len)) w') :
    (Oper.mk d (.buildSlice t len parts) ty pos af g).wpIn (WF ρ) 0 P a w K Q := by
  refine op_buildSlice (o := o) ht hk hu hi hv hsz ?_ L h
  have hs' : 0 < s := Nat.le_of_ble_eq_true hs
  rw [hp, ← hlen, zip_swap, Great.fill_whole hs' vs _ (fun v hv => Nat.eq_of_beq_eq_true (List.all_eq_true.1 h1 v hv)) (by simp), hc]
end
end Go.Proofs.XC

set_option linter.unusedSimpArgs false
set_option linter.unusedVariables false
namespace Go.Proofs.XC
open Go

/-! ### What arguments hold: cells by kinds -/
inductive CK where
  | i (k : IntKind)
  | b
  | s
def CK.is : CK → Value → Prop
  | .i k, v => ∃ n, v = .int k n ∧ (Lit.int k n).wf = true
  | .b, v => ∃ x, v = .bool x
  | .s, v => ∃ x : ByteArray, v = .string x ∧ x.size ≤ maxLen
def AreC : List CK → List Value → Prop
  | [], [] => True
  | k :: ks, v :: vs => k.is v ∧ AreC ks vs
  | _, _ => False
def cksF (T : Tab) (rec : Nat → Option (List CK)) : Nat → List Field → Option (List CK)
  | _, [] => some []
  | off, f :: fs => bif Nat.beq f.offset off then match rec f.type, find T.inf f.type with
      | some ks, some (s, _, _) => bif Nat.beq s ks.length then match cksF T rec (off + s) fs with
          | some r => some (ks ++ r)
          | none => none
        else none
      | _, _ => none
    else none
def cksP (T : Tab) : Nat → Nat → Option (List CK)
  | 0, _ => none
  | d + 1, t => match find T.und t with
    | some .bool => some [.b]
    | some (.int k) => some [.i k]
    | some .string => some [.s]
    | some (.struct fs) => match cksF T (cksP T d) 0 fs.toList, find T.inf t with
      | some ks, some (s, _, _) => bif Nat.beq s ks.length then some ks else none
      | _, _ => none
    | _ => none
theorem AreC.append : ∀ {ks : List CK} {vs : List Value} {ks2 : List CK} {vs2 : List Value}, AreC ks vs → AreC ks2 vs2 → AreC (ks ++ ks2) (vs ++ vs2)
  | [], [], _, _, _, h => h
  | _ :: _, _ :: _, _, _, h, h2 => ⟨h.1, AreC.append h.2 h2⟩
  | [], _ :: _, _, _, h, _ => h.elim
  | _ :: _, [], _, _, h, _ => h.elim
theorem AreC.len : ∀ {ks : List CK} {vs : List Value}, AreC ks vs → vs.length = ks.length
  | [], [], _ => rfl
  | _ :: _, _ :: _, h => by simp [AreC.len h.2]
  | [], _ :: _, h => h.elim
  | _ :: _, [], h => h.elim
section
variable {P : Program} {T : Tab} {w : World} {H : Type} {enc : TypeId × Value → H} {spare : Nat → Bool} {held : Bool}
theorem mapM_cons_some {β γ : Type} {f : β → Option γ} {x : β} {l : List β} {r : List γ} (h : (x :: l).mapM f = some r) : ∃ y ys, f x = some y ∧ l.mapM f = some ys ∧ r = y :: ys := by
  rw [List.mapM_cons] at h
  cases hx : f x with
  | none => simp [hx] at h
  | some y =>
    cases hl : l.mapM f with
    | none => simp [hx, hl] at h
    | some ys => simp [hx, hl] at h; exact ⟨y, ys, rfl, rfl, h.symm⟩
theorem cellsOf_of (ht : TabOK P T) {t s b : Nat} {z : Value} (h : find T.inf t = some (s, b, z)) : P.cellsOf t = s := by
  obtain ⟨i, hi, hs, _⟩ := ht.i h
  simp [Program.cellsOf, hi, hs]
theorem cksF_sound (ht : TabOK P T) {rec : Nat → Option (List CK)} {fuel : Nat} {cs : List Value}
    (hrec : ∀ t ks cs x, rec t = some ks → DataW.trod enc P w 0 spare held fuel t cs = some x → AreC ks cs) :
    ∀ (fs : List Field) (off : Nat) (ks : List CK) (xs : List (DataW H × List MemPlace)), cksF T rec off fs = some ks →
      (fs.mapM fun f => DataW.trod enc P w 0 spare held fuel f.type ((cs.drop f.offset).take (P.cellsOf f.type))) = some xs → AreC ks ((cs.drop off).take ks.length)
  | [], off, ks, xs, hk, _ => by simp only [cksF, Option.some.injEq] at hk; subst hk; simp [AreC]
  | f :: fs, off, ks, xs, hk, hm => by
    simp only [cksF] at hk
    cases hb : Nat.beq f.offset off with
    | false => rw [hb] at hk; simp at hk
    | true =>
      have := Nat.eq_of_beq_eq_true hb
      rw [hb] at hk
      simp only [cond_true] at hk
      split at hk <;> try (simp at hk; done)
      rename_i k1 s b z hr hi
      cases hb2 : Nat.beq s k1.length with
      | false => rw [hb2] at hk; simp at hk
      | true =>
        rw [hb2] at hk
        simp only [cond_true] at hk
        have hs := Nat.eq_of_beq_eq_true hb2
        split at hk <;> simp at hk
        rename_i r hr2
        obtain ⟨y, ys, hy, hys, rfl⟩ := mapM_cons_some hm
        have h1 := hrec _ _ _ _ hr hy
        have h2 := cksF_sound ht hrec fs (off + s) r ys hr2 hys
        rw [cellsOf_of ht hi, this] at h1
        subst hk
        have e : (cs.drop off).take (k1 ++ r).length = (cs.drop off).take s ++ (cs.drop (off + s)).take r.length := by
          rw [List.length_append, ← hs, List.take_add, List.drop_drop]
        rw [e]
        exact h1.append h2
theorem cksP_sound (ht : TabOK P T) : ∀ (d t : Nat) (ks : List CK) (fuel : Nat) (cs : List Value) (x : DataW H × List MemPlace), cksP T d t = some ks → DataW.trod enc P w 0 spare held fuel t cs = some x → AreC ks cs
  | 0, _, _, _, _, _, h, _ => by simp [cksP] at h
  | d + 1, t, ks, 0, cs, x, hk, h => by simp [DataW.trod] at h
  | d + 1, t, ks, fuel + 1, cs, x, hk, h => by
    simp only [cksP] at hk
    split at hk
    · rename_i hu
      simp only [Option.some.injEq] at hk
      subst hk
      unfold DataW.trod at h
      rw [ht.u hu] at h
      split at h <;> simp_all
      exact ⟨⟨_, rfl⟩, trivial⟩
    · rename_i k hu
      simp only [Option.some.injEq] at hk
      subst hk
      unfold DataW.trod at h
      rw [ht.u hu] at h
      split at h <;> simp_all
      exact ⟨⟨_, rfl, h.1.2⟩, trivial⟩
    · rename_i hu
      simp only [Option.some.injEq] at hk
      subst hk
      unfold DataW.trod at h
      rw [ht.u hu] at h
      split at h <;> simp_all
      exact ⟨⟨_, rfl, h.1⟩, trivial⟩
    · rename_i fs hu
      unfold DataW.trod at h
      rw [ht.u hu] at h
      simp only at h
      split at h
      · rename_i hl
        cases hm : fs.toList.mapM fun f => DataW.trod enc P w 0 spare held fuel f.type ((cs.drop f.offset).take (P.cellsOf f.type)) with
        | none => simp [hm] at h
        | some xs =>
          split at hk <;> try (simp at hk; done)
          rename_i ks2 s b z hk2 hi
          cases hb : Nat.beq s ks2.length with
          | false => rw [hb] at hk; simp at hk
          | true =>
            rw [hb] at hk
            simp only [cond_true, Option.some.injEq] at hk
            subst hk
            have hs := Nat.eq_of_beq_eq_true hb
            have h2 := cksF_sound ht (fun t ks cs x hk h => cksP_sound ht d t ks fuel cs x hk h) fs.toList 0 ks2 xs hk2 hm
            rw [cellsOf_of ht hi, hs] at hl
            rwa [List.drop_zero, ← hl, List.take_length] at h2
      · cases h
    · simp at hk
/-- A slice of flat elements. -/
theorem open_rows (ht : TabOK P T) {α : Type} {E : Enc α} {WF : α → Prop} {r : Reach} {b0 d t e bb : Nat} {z : Value} {ks : List CK} {v : Value} {x : DataW H} {ps : List MemPlace} (hu : find T.und t = some (.slice e)) (hi : find T.inf e = some (E.sz, bb, z)) (hk : cksP T d e = some ks)
    (hE : ∀ cs, AreC ks cs → ∃ y, cs = E.f y ∧ WF y) (hval : Value.okWide P w r b0 t v) (h : DataW.Trod enc P w 0 spare held t v x ps) :
    ∃ (A : Option Addr) (c : Nat) (xs : List α), v = .slice A xs.length c ∧ RdC E A xs w ∧ xs.length ≤ c ∧ c ≤ maxLen ∧ ∀ y ∈ xs, WF y := by
  obtain ⟨a, len, cap, rfl⟩ := WideShapes.okWide_slice (ht.u hu) hval
  obtain ⟨fuel, hf⟩ := h
  cases fuel with
  | zero => simp [DataW.trod] at hf
  | succ fuel =>
    unfold DataW.trod at hf
    rw [ht.u hu] at hf
    simp only [Value.cells] at hf
    cases a with
    | none =>
      have : len = 0 ∧ cap = 0 := by
        cases len <;> cases cap <;> simp at hf ⊢
      obtain ⟨rfl, rfl⟩ := this
      exact ⟨none, 0, [], rfl, fun h0 => absurd h0 (by simp), by simp, by simp, by simp⟩
    | some a =>
      simp only at hf
      split at hf
      · rename_i hc
        cases hm : (List.range len).mapM fun i => (w.cells? 0 (a.add (i * P.cellsOf e)) (P.cellsOf e)).bind (DataW.trod enc P w 0 spare held fuel e) with
        | none => simp [hm] at hf
        | some ys =>
          rw [cellsOf_of ht hi] at hm
          have hyl : ys.length = len := by simpa using mapM_some_length hm
          have hget : ∀ i, i < len → ∃ y, E.f y = ((List.range E.sz).map fun j => (w.cell? ((a.add (i * E.sz)).add j)).getD undef) ∧ WF y ∧ ∀ j, j < E.sz → w.cell? ((a.add (i * E.sz)).add j) = (E.f y)[j]? := by
            intro i hi'
            have h1 := mapM_some_get hm i i (by simp [hi'])
            rw [List.getElem?_eq_getElem (by omega)] at h1
            obtain ⟨cs, hcs, htr⟩ := Option.bind_eq_some_iff.1 h1
            obtain ⟨_, hl, hcell⟩ := World.cells?_some hcs
            obtain ⟨y, hy, hw⟩ := hE cs (cksP_sound ht d e ks fuel cs _ hk htr)
            subst hy
            refine ⟨y, ?_, hw, hcell⟩
            apply List.ext_getElem?
            intro j
            by_cases hj : j < E.sz
            · rw [List.getElem?_map, List.getElem?_range hj]
              simp only [Option.map_some]
              rw [hcell j hj]
              rw [List.getElem?_eq_getElem (by rw [E.len]; exact hj)]
              rfl
            · rw [List.getElem?_eq_none (by rw [E.len]; omega), List.getElem?_eq_none (by simp; omega)]
          have hall : ∀ n, n ≤ len → ∃ xs : List α, xs.length = n ∧ (∀ y ∈ xs, WF y) ∧ ∀ (i : Nat) (y : α), xs[i]? = some y → ∀ j, j < E.sz → w.cell? ((a.add (i * E.sz)).add j) = (E.f y)[j]? := by
            intro n
            induction n with
            | zero => exact fun _ => ⟨[], rfl, by simp, by simp⟩
            | succ n ih =>
              intro hn
              obtain ⟨xs, hxl, hxw, hxc⟩ := ih (by omega)
              obtain ⟨y, _, hw, hc⟩ := hget n (by omega)
              refine ⟨xs ++ [y], by simp [hxl], fun u hu => ?_, fun i u hu => ?_⟩
              · rcases List.mem_append.1 hu with hu | hu
                · exact hxw u hu
                · simp only [List.mem_singleton] at hu; subst hu; exact hw
              · by_cases hin : i < xs.length
                · rw [List.getElem?_append_left hin] at hu; exact hxc i u hu
                · rw [List.getElem?_append_right (by omega)] at hu
                  have hin0 : i - xs.length = 0 := by
                    have := (List.getElem?_eq_some_iff.1 hu).1
                    simp at this; omega
                  rw [hin0] at hu
                  simp only [List.getElem?_cons_zero, Option.some.injEq] at hu
                  subst hu
                  have : i = n := by omega
                  subst this
                  exact hc
          obtain ⟨xs, hxl, hxw, hxc⟩ := hall len (Nat.le_refl _)
          refine ⟨some a, cap, xs, by rw [hxl], fun _ => ⟨a, rfl, fun i y hy j u hu => ?_⟩, by omega, hc.2.2, hxw⟩
          rw [hxc i y hy j (by rw [← E.len y]; exact (List.getElem?_eq_some_iff.1 hu).1), hu]
      · cases hf
theorem st_below {o o' : Nat → Nat} {W W' : World} (h : St [] W o W' o') : RowKit.Below W.heap.size W W' := ⟨h.os, h.tape, h.output, h.size, fun b hb => h.kept b hb (by simp)⟩
end
theorem AreC.cons {k : CK} {ks : List CK} {cs : List Value} (h : AreC (k :: ks) cs) : ∃ v u, cs = v :: u ∧ k.is v ∧ AreC ks u := by
  cases cs with
  | nil => exact h.elim
  | cons v u => exact ⟨v, u, rfl, h.1, h.2⟩
theorem AreC.nil {cs : List Value} (h : AreC [] cs) : cs = [] := by
  cases cs with
  | nil => rfl
  | cons v u => exact h.elim
theorem cell_lt {w : World} {a : Addr} {v : Value} (h : w.cell? a = some v) : a.block < w.heap.size := by
  unfold World.cell? at h
  cases hb : w.heap[a.block]? with
  | none => simp [hb] at h
  | some ob => exact (Array.getElem?_eq_some_iff.1 hb).1
theorem RdC.ft {α : Type} {E : Enc α} {A : Option Addr} {xs : List α} {w : World} (h : RdC E A xs w) : Ft (RdC E A xs) w (fun _ => 0) 0 := fun w' hw h0 => by
  obtain ⟨ad, ha, hc⟩ := h h0
  refine ⟨ad, ha, fun i x hx j v hv => ?_⟩
  have h1 := hc i x hx j v hv
  have hb := hw _ rfl (cell_lt h1)
  rw [← h1]
  unfold World.cell?
  rw [hb]
end Go.Proofs.XC

set_option linter.unusedSimpArgs false
set_option linter.unusedVariables false
namespace Go.Proofs.XC
open Go

/-! ### Rows whose elements may be written (with or without a conversion's mark) -/
section
variable {ρ : Option Nat} {ds : List Deferred} {P : Program} {T : Tab} {n : Nat} {a : Act} {e : Env} {w w' : World} {o o' : Nat → Nat} {L : Nat} {Q : Exit → Act → World → Prop} {K : Act → World → Prop}
  {d : Option Tmp} {ty : TypeId} {pos : String} {af : Array Edge} {g : Option (Nat × Bool)} {α : Type} {E : Enc α}
theorem KnD.re (h : KnD n ds a e) (ks : List Nat) {e1 e2 : Env} (hp : XC.pick e ks = some e1) (he : e1 = e2) : KnD n ds a e2 := he ▸ KnD.pick h hp
def BxM (b : Nat) (t : TypeId) (mk : Nat × Nat) (cs : List Value) (w : World) : Prop := w.heap[b]? = some (.cells cs.toArray t mk)
def Wr {α : Type} (E : Enc α) (t : TypeId) (v : Value) (xs : List α) (w : World) : Prop :=
  (v = .slice none 0 0 ∧ xs = []) ∨ ∃ g cap cs mk, v = .slice (some ⟨g, 0, none⟩) xs.length cap ∧ BxM g t mk cs w ∧ (mk = (0, 0) ∨ cs.length ≤ mk.1) ∧ xs.length * E.sz ≤ cs.length ∧ cs.take (xs.length * E.sz) = xs.flatMap E.f
theorem Own.wr {v : Value} {xs : List α} {t : TypeId} (h : Own E t v xs w) : Wr E t v xs w := by
  rcases h.2 with ⟨rfl, h0⟩ | ⟨g, cap, cur, rfl, _, hh, h1, h2, h3, h4⟩
  · exact .inl ⟨rfl, List.length_eq_zero_iff.1 h0⟩
  · refine .inr ⟨g, cap, cur.toList, (0, 0), rfl, by simpa [BxM] using hh, .inl rfl, ?_, h4⟩
    have := congrArg List.length h4
    rw [List.length_take, flat_len] at this
    omega
theorem BxM.cell {b t : Nat} {mk : Nat × Nat} {cs : List Value} (h : BxM b t mk cs w) (j : Nat) : w.cell? ⟨b, j, none⟩ = cs[j]? := by
  unfold BxM at h
  simp [World.cell?, h]
theorem Wr.rd {A : Option Addr} {k c : Nat} {xs : List α} {t : TypeId} (h : Wr E t (.slice A k c) xs w) : RdC E A xs w := by
  intro h0
  rcases h with ⟨_, hn⟩ | ⟨g, cap, cs, mk, hv, hb, hm, hl, h4⟩
  · subst hn; simp at h0
  · injection hv with hA hk hc
    refine ⟨⟨g, 0, none⟩, hA, fun i x hx j v hv => ?_⟩
    have hf := flat_at E xs i x hx j v hv
    rw [← h4, List.getElem?_take] at hf
    split at hf
    · rw [add_flat]
      have e1 : (⟨g, 0, none⟩ : Addr).add (i * E.sz + j) = ⟨g, i * E.sz + j, none⟩ := by unfold Addr.add; split <;> simp_all
      rw [e1, BxM.cell hb]
      exact hf
    · simp at hf
theorem Wr.plain {v : Value} {xs : List α} {t : TypeId} (h : Wr E t v xs w) : ∀ A n c, v = .slice A n c → ∀ ad, A = some ad → ad.spot = none := by
  rintro A n c rfl ad rfl
  rcases h with ⟨hv, _⟩ | ⟨g, cap, cur, mk, hv, _⟩
  · cases hv
  · injection hv with hv _ _
    injection hv with hv
    rw [hv]
theorem Wr.lab {v : Value} {xs : List α} {t : TypeId} (h : Ft (Wr E t v xs) w o L) : ∀ g, v.ownBlock = some g → o g = L := by
  intro g hg
  by_cases ho : o g = L
  · exact ho
  · have h1 := h.now
    rcases h1 with ⟨rfl, _⟩ | ⟨g', cap, cs, mk, rfl, hh, _⟩
    · simp [Value.ownBlock] at hg
    · have hgg : g' = g := by simpa [Value.ownBlock] using hg
      subst hgg
      have hlt : g' < w.heap.size := (Array.getElem?_eq_some_iff.1 hh).1
      have h2 := h { w with heap := w.heap.set g' (.map #[] 0) hlt } (fun c hc hcl => by
        have : c ≠ g' := fun e => ho (e ▸ hc)
        simp [Array.getElem?_set, Ne.symm this])
      rcases h2 with ⟨hx, _⟩ | ⟨g2, cap2, cs2, mk2, hv, hh2, _⟩
      · cases hx
      · injection hv with hv _ _
        injection hv with hv
        injection hv with hv _ _
        subst hv
        unfold BxM at hh2
        simp at hh2
theorem Wr.move {v : Value} {xs : List α} {t : TypeId} (h : Wr E t v xs w) (hm : ∀ k, v.ownBlock = some k → w'.heap[k]? = w.heap[k]?) : Wr E t v xs w' := by
  rcases h with h2 | ⟨g, cap, cs, mk, rfl, hh, r⟩
  · exact .inl h2
  · exact .inr ⟨g, cap, cs, mk, rfl, (hm g (by simp [Value.ownBlock])).trans hh, r⟩
theorem Wr.ft {v : Value} {xs : List α} {t : TypeId} (h : Wr E t v xs w) (ho : ∀ k, v.ownBlock = some k → o k = L) : Ft (Wr E t v xs) w o L := fun w' hw =>
  h.move fun k hk => hw k (ho k hk) (by
    rcases h with ⟨rfl, _⟩ | ⟨g', cap, cs, mk, rfl, hh, _⟩
    · simp [Value.ownBlock] at hk
    · have hgg : g' = k := by simpa [Value.ownBlock] using hk
      subst hgg
      exact (Array.getElem?_eq_some_iff.1 hh).1)
theorem splice_get {β : Type} (l vs : List β) (k : Nat) (hk : k + vs.length ≤ l.length) (p : Nat) : (l.take k ++ vs ++ l.drop (k + vs.length))[p]? = if k ≤ p ∧ p < k + vs.length then vs[p - k]? else l[p]? := by
  have h1 : (l.take k).length = k := by rw [List.length_take]; omega
  by_cases c1 : p < k
  · rw [if_neg (by omega), List.append_assoc, List.getElem?_append_left (by omega), List.getElem?_take, if_pos c1]
  · rw [List.append_assoc, List.getElem?_append_right (by omega), h1]
    by_cases c2 : p < k + vs.length
    · rw [if_pos ⟨by omega, c2⟩, List.getElem?_append_left (by omega)]
    · rw [if_neg (by omega), List.getElem?_append_right (by omega), List.getElem?_drop]
      congr 1; omega
theorem run_storeCellsM {b : Nat} {t : TypeId} {mk : Nat × Nat} : ∀ (vs : List Value) (i k : Nat) (cs : List Value) (w : World), BxM b t mk cs w → (mk = (0, 0) ∨ cs.length ≤ mk.1) → (∀ v ∈ vs, v.oneCell' = true) → k + i + vs.length ≤ cs.length →
    ∃ w', (storeCells ((⟨b, 0, none⟩ : Addr).add k) vs i).run P w = .ok () w' ∧ BxM b t mk (cs.take (k + i) ++ vs ++ cs.drop (k + i + vs.length)) w' ∧ w'.os = w.os ∧ w'.tape = w.tape ∧ w'.output = w.output ∧ w'.heap.size = w.heap.size ∧ ∀ c, c ≠ b → w'.heap[c]? = w.heap[c]?
  | [], i, k, cs, w, hb, _, _, _ => ⟨w, by simp [storeCells], by simpa using hb, rfl, rfl, rfl, rfl, fun _ _ => rfl⟩
  | v :: vs, i, k, cs, w, hb, hm, h1, hl => by
    simp only [List.length_cons] at hl
    have had : ((⟨b, 0, none⟩ : Addr).add k).add i = ⟨b, k + i, none⟩ := by
      unfold Addr.add
      by_cases hk : k = 0 <;> by_cases hi : i = 0 <;> simp [hk, hi]
    have hc : w.cell? ⟨b, k + i, none⟩ = cs[k + i]? := BxM.cell hb _
    have hsome : cs[k + i]? = some cs[k + i] := List.getElem?_eq_getElem (by omega)
    have hfr : w.frozen? ⟨b, k + i, none⟩ = false := by
      unfold BxM at hb
      obtain ⟨lo, hi⟩ := mk
      simp only [World.frozen?, hb]
      rcases hm with hm | hm
      · simp only [Prod.mk.injEq] at hm
        obtain ⟨rfl, rfl⟩ := hm
        simp
      · simp only at hm
        have : ¬ lo ≤ k + i := by omega
        simp [this]
    have hb2 : BxM b t mk (cs.set (k + i) v) (w.setCell ⟨b, k + i, none⟩ v) := by
      unfold BxM at hb ⊢
      have hlt : b < w.heap.size := (Array.getElem?_eq_some_iff.1 hb).1
      simp only [World.setCell]
      rw [Array.getElem?_modify]
      simp [hb]
    obtain ⟨w', hr, hb', ho, htp, hout, hsz, hk'⟩ := run_storeCellsM vs (i + 1) k (cs.set (k + i) v) _ hb2 (by simpa using hm) (fun u hu => h1 u (List.mem_cons_of_mem _ hu)) (by simp only [List.length_set]; omega)
    refine ⟨w', ?_, ?_, ho.trans rfl, htp.trans rfl, hout.trans rfl, hsz.trans (by simp), fun c hc' => (hk' c hc').trans ?_⟩
    · simp only [storeCells, Sem.run_bind, had, run_store P w _ v .plain (h1 v List.mem_cons_self), hc, hsome, hfr]
      simpa using hr
    · have e1 : (cs.set (k + i) v).take (k + (i + 1)) = cs.take (k + i) ++ [v] := by
        rw [List.take_set, ← Nat.add_assoc, List.take_succ_eq_append_getElem (by omega : k + i < cs.length)]
        rw [List.set_append_right _ _ (by simp; omega)]
        simp [Nat.min_eq_left (by omega : k + i ≤ cs.length)]
      have e2 : (cs.set (k + i) v).drop (k + (i + 1) + vs.length) = cs.drop (k + i + (vs.length + 1)) := by
        rw [List.drop_set_of_lt (by omega)]
        congr 1
        omega
      rw [e1, e2] at hb'
      simpa using hb'
    · exact setCell_far w ⟨b, k + i, none⟩ v c hc'
/-- What a store into an element makes of the row. -/
theorem flat_set {xs : List α} {i j : Nat} {x0 y : α} {cs vs : List Value} (hi : xs[i]? = some x0) (hl : xs.length * E.sz ≤ cs.length) (h4 : cs.take (xs.length * E.sz) = xs.flatMap E.f) (hj : j + vs.length ≤ E.sz)
    (hc : (E.f x0).take j ++ vs ++ (E.f x0).drop (j + vs.length) = E.f y) :
    (cs.take (i * E.sz + j) ++ vs ++ cs.drop (i * E.sz + j + vs.length)).take ((xs.set i y).length * E.sz) = (xs.set i y).flatMap E.f := by
  have hil : i < xs.length := (List.getElem?_eq_some_iff.1 hi).1
  have hii : (i + 1) * E.sz ≤ xs.length * E.sz := Nat.mul_le_mul_right _ hil
  have hi1 : (i + 1) * E.sz = i * E.sz + E.sz := by rw [Nat.add_mul]; omega
  apply List.ext_getElem?
  intro p
  rw [List.getElem?_take]
  simp only [List.length_set]
  split
  · rename_i hp
    have hpos : 0 < E.sz := by
      rcases Nat.eq_zero_or_pos E.sz with h0 | h0
      · rw [h0] at hp; omega
      · exact h0
    have hq : p / E.sz < xs.length := (Nat.div_lt_iff_lt_mul hpos).2 hp
    have hr : p % E.sz < E.sz := Nat.mod_lt _ hpos
    have ep : p / E.sz * E.sz + p % E.sz = p := by rw [Nat.mul_comm]; exact Nat.div_add_mod p E.sz
    generalize hqq : p / E.sz = q at *
    generalize hrr : p % E.sz = r at *
    have hcp : cs[p]? = (E.f xs[q])[r]? := by
      obtain ⟨v, hv⟩ : ∃ v, (E.f xs[q])[r]? = some v := ⟨(E.f xs[q])[r]'(by rw [E.len]; exact hr), List.getElem?_eq_getElem (by rw [E.len]; exact hr)⟩
      have := flat_at E xs q xs[q] (List.getElem?_eq_getElem hq) r v hv
      rw [← h4, ep, List.getElem?_take, if_pos hp] at this
      rw [this, hv]
    rw [splice_get cs vs (i * E.sz + j) (by omega), hcp]
    by_cases hqi : q = i
    · subst hqi
      have hx : xs[q] = x0 := by rw [List.getElem?_eq_getElem hq] at hi; exact Option.some.inj hi
      obtain ⟨v, hv⟩ : ∃ v, (E.f y)[r]? = some v := ⟨_, List.getElem?_eq_getElem (by rw [E.len]; exact hr)⟩
      have := flat_at E (xs.set q y) q y (by simp [hq]) r v hv
      rw [ep] at this
      rw [this, ← hv, ← hc, splice_get (E.f x0) vs j (by rw [E.len]; exact hj), hx]
      by_cases c1 : j ≤ r ∧ r < j + vs.length
      · rw [if_pos c1, if_pos (by omega)]; congr 1; omega
      · rw [if_neg c1, if_neg (by omega)]
    · have hne : ¬(i * E.sz + j ≤ p ∧ p < i * E.sz + j + vs.length) := by
        rcases Nat.lt_or_ge q i with hlt | hge
        · have : (q + 1) * E.sz ≤ i * E.sz := Nat.mul_le_mul_right _ hlt
          rw [Nat.add_mul] at this; omega
        · have : (i + 1) * E.sz ≤ q * E.sz := Nat.mul_le_mul_right _ (by omega)
          omega
      rw [if_neg hne]
      obtain ⟨v, hv⟩ : ∃ v, (E.f xs[q])[r]? = some v := ⟨(E.f xs[q])[r]'(by rw [E.len]; exact hr), List.getElem?_eq_getElem (by rw [E.len]; exact hr)⟩
      have := flat_at E (xs.set i y) q xs[q] (by rw [List.getElem?_set_ne (Ne.symm hqi)]; exact List.getElem?_eq_getElem hq) r v hv
      rw [ep] at this
      rw [this, hv]
  · rename_i hp
    rw [List.getElem?_eq_none (by rw [flat_len, List.length_set]; omega)]
/-- A store into an element, of a row that may be written. -/
theorem wr_store (ht : TabOK P T) (hk : KnD n ds a e) {t s bb tt : Nat} {z : Value} {x y : Operand} {ad ad' : Addr} {v : Value} {xs : List α} {i : Int} {j c : Nat} {dx y' : α}
    (hi : find T.inf t = some (s, bb, z)) (hx : evo e x = some (.pointer (some ad'))) (hy : evo e y = some v) (f : Ft (Wr E tt (.slice (some ad) xs.length c) xs) w o L) (had : ad' = (ad.add (i.toNat * E.sz)).add j) (hin : 0 ≤ i ∧ i < (xs.length : Int))
    (hs : v.cells.size = s) (h1 : (v.cells.toList.all Value.oneCell') = true) (hj : Nat.ble (j + s) E.sz = true) (hc : (E.f (rdD dx xs i)).take j ++ v.cells.toList ++ (E.f (rdD dx xs i)).drop (j + s) = E.f y') :
    ∃ w', (execOp a.eval (Oper.mk d (.store t x y) ty pos af g)).run P w = .ok .skip w' ∧ St [L] w o w' o ∧ Ft (Wr E tt (.slice (some ad) (xs.set i.toNat y').length c) (xs.set i.toNat y')) w' o L ∧
      (∀ k, (Value.slice (some ad) xs.length c).ownBlock = some k → ∃ cs cs', (w.heap[k]? = some (.cells cs tt (0, 0)) → w'.heap[k]? = some (.cells cs' tt (0, 0))) ∧ cs'.size = cs.size ∧ (∃ mk, w.heap[k]? = some (.cells cs tt mk))) := by
  have hil : i.toNat < xs.length := by omega
  have hx0 : xs[i.toNat]? = some (rdD dx xs i) := by simp [rdD, List.getD_eq_getElem?_getD, List.getElem?_eq_getElem hil]
  have hlab := Wr.lab f
  have f0 := f.now
  rcases f0 with ⟨h0, _⟩ | ⟨b, cap, cs, mk, hv, hb, hm, hl, h4⟩
  · cases h0
  · injection hv with hA _ hcap
    injection hA with hA
    subst hA
    have hL : o b = L := hlab b rfl
    have hvl : v.cells.toList.length = s := by simpa using hs
    have hj' : j + v.cells.toList.length ≤ E.sz := by rw [hvl]; simpa using hj
    have hle : (i.toNat + 1) * E.sz ≤ xs.length * E.sz := Nat.mul_le_mul_right _ hil
    rw [Nat.add_mul] at hle
    obtain ⟨w', hr, hb', ho, htp, hout, hsz, hk'⟩ := run_storeCellsM (P := P) (mk := mk) v.cells.toList 0 (i.toNat * E.sz + j) cs w hb hm (fun u hu => List.all_eq_true.1 h1 u hu) (by omega)
    refine ⟨w', ?_, ⟨ho, htp, hout, by omega, fun _ _ _ => rfl, fun q _ hcm => hk' q (fun e => hcm (by rw [e, hL]; simp))⟩, ?_, ?_⟩
    · rw [add_flat] at had
      simp [execOp, Instr.storeAt, hk.ev hx, hk.ev hy, Instr.sureAddr, storeVar, hs, run_sizeOf' ht hi, had, hr]
    · refine Wr.ft ?_ (fun k hk2 => hlab k hk2)
      refine .inr ⟨b, c, _, mk, rfl, hb', ?_, ?_, ?_⟩
      · rcases hm with hm | hm
        · exact .inl hm
        · refine .inr ?_
          simp only [List.length_append, List.length_take, List.length_drop, Nat.add_zero]
          omega
      · simp only [List.length_append, List.length_take, List.length_drop, Nat.add_zero, List.length_set]
        omega
      · have := flat_set (E := E) (j := j) (vs := v.cells.toList) (y := y') hx0 hl h4 hj' (by rw [hvl]; exact hc)
        simpa using this
    · intro k hk2
      have : b = k := by simpa [Value.ownBlock] using hk2
      subst this
      unfold BxM at hb hb'
      refine ⟨cs.toArray, (cs.take (i.toNat * E.sz + j + 0) ++ v.cells.toList ++ cs.drop (i.toNat * E.sz + j + 0 + v.cells.toList.length)).toArray, fun h => ?_, ?_, mk, hb⟩
      · rw [hb] at h
        injection h with h
        injection h with _ _ h
        subst h
        exact hb'
      · simp only [List.size_toArray, List.length_append, List.length_take, List.length_drop, Nat.add_zero]
        omega
theorem op_storeO (ht : TabOK P T) (hk : KnD n ds a e) {t s bb tt : Nat} {z : Value} {x y : Operand} {ad ad' : Addr} {v : Value} {xs : List α} {i : Int} {j c : Nat} {dx y' : α}
    (hi : find T.inf t = some (s, bb, z)) (hx : evo e x = some (.pointer (some ad'))) (hy : evo e y = some v) (f : Ft (Own E tt (.slice (some ad) xs.length c) xs) w o L) (had : ad' = (ad.add (i.toNat * E.sz)).add j) (hin : 0 ≤ i ∧ i < (xs.length : Int))
    (hs : v.cells.size = s) (h1 : (v.cells.toList.all Value.oneCell') = true) (hj : Nat.ble (j + s) E.sz = true) (hc : (E.f (rdD dx xs i)).take j ++ v.cells.toList ++ (E.f (rdD dx xs i)).drop (j + s) = E.f y')
    (h : ∀ w' o', St [L] w o w' o' → Ft (Own E tt (.slice (some ad) (xs.set i.toNat y').length c) (xs.set i.toNat y')) w' o' L → K (a.put d undef) w') :
    (Oper.mk d (.store t x y) ty pos af g).wpIn (WF ρ) 0 P a w K Q := by
  obtain ⟨w', hr, hst, hf, hcs⟩ := wr_store (d := d) (ty := ty) (pos := pos) (af := af) (g := g) ht hk hi hx hy (f.imp fun _ h => h.wr) had hin hs h1 hj hc
  refine op_of_skip hr (h _ _ hst (Own.ft ?_ (fun k hk2 => Own.lab f k hk2)))
  have f0 := f.now
  rcases f0.2 with ⟨h0, _⟩ | ⟨b, cap, cur, hv, hb0, hh, h1', h2', h3', h4'⟩
  · cases h0
  · injection hv with hA _ hcap
    injection hA with hA
    subst hA
    obtain ⟨cs, cs', himp, hsz, mk, hb2⟩ := hcs b rfl
    rw [hh] at hb2
    injection hb2 with hb2
    injection hb2 with e1 _ e2
    subst e1; subst e2
    have hh' := himp hh
    rcases hf.now with ⟨hx', _⟩ | ⟨b2, cap2, cs2, mk2, hv2, hbb, hmm, hll, h44⟩
    · cases hx'
    · injection hv2 with hA2 _ hc2
      injection hA2 with hA2
      injection hA2 with hA2 _ _
      subst hA2
      unfold BxM at hbb
      rw [hh'] at hbb
      injection hbb with hbb
      injection hbb with e3 _ _
      refine ⟨flat_len E _, .inr ⟨b, c, cs', rfl, Nat.zero_le _, hh', ?_, ?_, ?_, ?_⟩⟩
      · rw [List.length_set]; omega
      · omega
      · rw [hsz, h3', hcap]
      · rw [e3, List.toList_toArray]; exact h44
/-- []byte(s) -/
def numsOf (s : ByteArray) : List Int := s.data.toList.map fun b => (b.toNat : Int)
theorem numsOf_len (s : ByteArray) : (numsOf s).length = s.size := by
  show (s.data.toList.map _).length = s.data.size
  simp
end
end Go.Proofs.XC

set_option linter.unusedSimpArgs false
set_option linter.unusedVariables false
namespace Go.Proofs.XC
open Go

/-! ### Package-level variables that are laid: their cells -/
def laidL (f : DataW Unit → Option (List Value)) (s : Nat) : List (DataW Unit) → Option (List Value)
  | [] => some []
  | D :: r => match f D, laidL f s r with
    | some v, some u => bif Nat.beq v.length s then some (v ++ u) else none
    | _, _ => none
def laidF (T : Tab) (rec : Nat → DataW Unit → Option (List Value)) : Nat → List Field → List (DataW Unit) → Option (List Value)
  | _, [], [] => some []
  | off, f :: fs, D :: r => bif Nat.beq f.offset off then match rec f.type D, find T.inf f.type with
      | some v, some (s, _, _) => bif Nat.beq s v.length then match laidF T rec (off + s) fs r with
          | some u => some (v ++ u)
          | none => none
        else none
      | _, _ => none
    else none
  | _, _, _ => none
def laidP (T : Tab) : Nat → Nat → DataW Unit → Option (List Value)
  | 0, _, _ => none
  | d + 1, t, D => match find T.und t, D with
    | some .bool, .lit (.bool b) => some [.bool b]
    | some (.int k), .lit (.int k' n) => if k = k' then some [.int k n] else none
    | some .string, .lit (.string bs) => some [.string ⟨bs.toArray⟩]
    | some (.array n e), .agg ds => match find T.inf e, find T.inf t, laidL (laidP T d e) ((find T.inf e).elim 0 (·.1)) ds with
      | some (s, _, _), some (s2, _, _), some vs => bif Nat.beq ds.length n && Nat.beq s2 (n * s) then some vs else none
      | _, _, _ => none
    | some (.struct fs), .agg ds => match laidF T (laidP T d) 0 fs.toList ds, find T.inf t with
      | some vs, some (s, _, _) => bif Nat.beq s vs.length then some vs else none
      | _, _ => none
    | _, _ => none
section
variable {P : Program} {T : Tab} {w : World} {spare : Nat → Bool} {held : Bool}
theorem laidL_sound {f : DataW Unit → Option (List Value)} {s : Nat} : ∀ (ds : List (DataW Unit)) (vs cs : List Value), laidL f s ds = some vs → cs.length = ds.length * s →
    (∀ i D, ds[i]? = some D → ∀ v, f D = some v → (cs.drop (i * s)).take s = v) → cs = vs
  | [], vs, cs, h, hl, _ => by
    simp only [laidL, Option.some.injEq] at h; subst h
    simpa using hl
  | D :: ds, vs, cs, h, hl, hall => by
    simp only [laidL] at h
    split at h <;> try (simp at h; done)
    rename_i v u hv hu
    cases hb : Nat.beq v.length s with
    | false => rw [hb] at h; simp at h
    | true =>
      rw [hb] at h
      simp only [cond_true, Option.some.injEq] at h
      have h0 := hall 0 D rfl v hv
      simp only [Nat.zero_mul, List.drop_zero] at h0
      have hr := laidL_sound ds u (cs.drop s) hu (by simp only [List.length_drop, hl, List.length_cons, Nat.add_mul]; omega) (fun i D' hD v' hv' => by
        have := hall (i + 1) D' (by simpa using hD) v' hv'
        rw [List.drop_drop]
        rw [Nat.add_mul] at this
        rw [← this]
        congr 2; omega)
      rw [← h, ← h0, ← hr, List.take_append_drop]
theorem laidF_sound (ht : TabOK P T) {rec : Nat → DataW Unit → Option (List Value)} {fuel : Nat} {cs : List Value}
    (hrec : ∀ t D vs cs p, rec t D = some vs → DataW.trod (fun _ => ()) P w 0 spare held fuel t cs = some (D, p) → cs = vs) :
    ∀ (fs : List Field) (off : Nat) (xs : List (DataW Unit × List MemPlace)) (vs : List Value), laidF T rec off fs (xs.map (·.1)) = some vs →
      (fs.mapM fun f => DataW.trod (fun _ => ()) P w 0 spare held fuel f.type ((cs.drop f.offset).take (P.cellsOf f.type))) = some xs → (cs.drop off).take vs.length = vs
  | [], off, xs, vs, hk, hm => by
    simp only [List.mapM_nil, pure, Option.some.injEq] at hm
    subst hm
    simp only [List.map_nil, laidF, Option.some.injEq] at hk
    subst hk; simp
  | f :: fs, off, xs, vs, hk, hm => by
    obtain ⟨y, ys, hy, hys, rfl⟩ := mapM_cons_some hm
    simp only [List.map_cons, laidF] at hk
    cases hb : Nat.beq f.offset off with
    | false => rw [hb] at hk; simp at hk
    | true =>
      have hoff := Nat.eq_of_beq_eq_true hb
      rw [hb] at hk
      simp only [cond_true] at hk
      split at hk <;> try (simp at hk; done)
      rename_i v s b z hr hi
      cases hb2 : Nat.beq s v.length with
      | false => rw [hb2] at hk; simp at hk
      | true =>
        rw [hb2] at hk
        simp only [cond_true] at hk
        have hs := Nat.eq_of_beq_eq_true hb2
        split at hk <;> simp at hk
        rename_i u hr2
        obtain ⟨yd, yp⟩ := y
        have h1 := hrec _ _ _ _ _ hr hy
        have h2 := laidF_sound ht hrec fs (off + s) ys u hr2 hys
        rw [cellsOf_of ht hi, hoff] at h1
        subst hk
        rw [List.length_append, ← hs, List.take_add, List.drop_drop, h1, h2]
theorem laidP_sound (ht : TabOK P T) : ∀ (d t : Nat) (D : DataW Unit) (vs : List Value) (fuel : Nat) (cs : List Value) (p : List MemPlace), laidP T d t D = some vs → DataW.trod (fun _ => ()) P w 0 spare held fuel t cs = some (D, p) → cs = vs
  | 0, _, _, _, _, _, _, h, _ => by simp [laidP] at h
  | d + 1, t, D, vs, 0, cs, p, hk, h => by simp [DataW.trod] at h
  | d + 1, t, D, vs, fuel + 1, cs, p, hk, h => by
    simp only [laidP] at hk
    split at hk
    · rename_i b hu
      simp only [Option.some.injEq] at hk
      subst hk
      unfold DataW.trod at h
      rw [ht.u hu] at h
      split at h <;> simp_all
    · rename_i k k' m hu
      split at hk <;> simp at hk
      rename_i hkk
      subst hkk; subst hk
      unfold DataW.trod at h
      rw [ht.u hu] at h
      split at h <;> simp_all
    · rename_i bs hu
      simp only [Option.some.injEq] at hk
      subst hk
      unfold DataW.trod at h
      rw [ht.u hu] at h
      split at h <;> simp_all
      rw [← h.2.1]
    · rename_i m e ds hu
      split at hk <;> try (simp at hk; done)
      rename_i s b z s2 b2 z2 vs' hi hi2 hL
      cases hb : Nat.beq ds.length m && Nat.beq s2 (m * s) with
      | false => rw [hb] at hk; simp at hk
      | true =>
        rw [hb] at hk
        simp only [cond_true, Option.some.injEq] at hk
        subst hk
        simp only [Bool.and_eq_true] at hb
        have hb1 := Nat.eq_of_beq_eq_true hb.1
        have hb2 := Nat.eq_of_beq_eq_true hb.2
        obtain ⟨xs, m', hf, hx, hcl, hxl, hel⟩ := DataW.trod_array (ht.u hu) h
        injection hx with hx _
        injection hx with hx
        subst hx
        rw [hi] at hL
        simp only [Option.elim_some] at hL
        rw [cellsOf_of ht hi2, hb2] at hcl
        rw [cellsOf_of ht hi] at hel
        refine laidL_sound _ _ _ hL (by rw [hcl, List.length_map, hxl]) (fun i D hD v hv => ?_)
        rw [List.getElem?_map] at hD
        obtain ⟨x, hx, hxD⟩ := Option.map_eq_some_iff.1 hD
        have him : i < m := by rw [← hxl]; exact (List.getElem?_eq_some_iff.1 hx).1
        have h1 := hel i him
        rw [hx] at h1
        obtain ⟨xd, xp⟩ := x
        simp only at hxD
        subst hxD
        exact laidP_sound ht d e _ v _ _ _ hv h1
    · rename_i fs ds hu
      unfold DataW.trod at h
      rw [ht.u hu] at h
      simp only at h
      split at h
      · rename_i hl
        cases hm : fs.toList.mapM fun f => DataW.trod (fun _ => ()) P w 0 spare held fuel f.type ((cs.drop f.offset).take (P.cellsOf f.type)) with
        | none => simp [hm] at h
        | some xs =>
          simp only [hm, Option.map_some, Option.some.injEq, Prod.mk.injEq, DataW.agg.injEq] at h
          obtain ⟨h, _⟩ := h
          subst h
          split at hk <;> try (simp at hk; done)
          rename_i vs' s b z hF hi
          cases hb : Nat.beq s vs'.length with
          | false => rw [hb] at hk; simp at hk
          | true =>
            rw [hb] at hk
            simp only [cond_true, Option.some.injEq] at hk
            subst hk
            have hs := Nat.eq_of_beq_eq_true hb
            have := laidF_sound ht (fun t D vs cs p hk h => laidP_sound ht d t D vs fuel cs p hk h) fs.toList 0 xs vs' hF hm
            rw [cellsOf_of ht hi, hs] at hl
            rwa [List.drop_zero, ← hl, List.take_length] at this
      · cases h
    · simp at hk
theorem RdC.of_cells {α : Type} {E : Enc α} {b : Nat} {xs : List α} {cs : List Value} (h : ∀ j v, cs[j]? = some v → w.cell? ⟨b, j, none⟩ = some v) (hx : xs.flatMap E.f = cs) : RdC E (some ⟨b, 0, none⟩) xs w := by
  intro _
  refine ⟨_, rfl, fun i x hi j v hv => ?_⟩
  rw [add_flat]
  have e1 : (⟨b, 0, none⟩ : Addr).add (i * E.sz + j) = ⟨b, i * E.sz + j, none⟩ := by unfold Addr.add; split <;> simp_all
  rw [e1]
  refine h _ _ ?_
  rw [← hx]
  exact flat_at E xs i x hi j v hv
/-- A laid variable's row, out of what the list of all says. -/
theorem laid_row {α : Type} (ht : TabOK P T) {E : Enc α} {nm : String} {D : DataW Unit} {g t d : Nat} {xs : List α} (hg : P.globalNamed nm = some g) (hty : (P.globals[g]?).map (·.type) = some t) (hD : laidP T d t D = some (xs.flatMap E.f)) :
    ∀ {l : List (String × DataW Unit)} {ps : List MemPlace}, (nm, D) ∈ l → DataW.LaidVars P w l ps → RdC E (some ⟨g, 0, none⟩) xs w
  | [], _, h, _ => by cases h
  | (n', D') :: r, ps, h, hv => by
    obtain ⟨g0, t0, cs0, f0, p0, q0, hg0, ht0, hv0, hd0, hr, _⟩ := hv
    rcases List.mem_cons.1 h with h | h
    · injection h with h1 h2
      subst h1; subst h2
      rw [hg] at hg0; injection hg0 with hg0; subst hg0
      rw [hty] at ht0; injection ht0 with ht0; subst ht0
      have hcs := laidP_sound ht d _ _ _ _ _ _ hD hd0
      refine RdC.of_cells (cs := cs0.toList) (fun j v hj => ?_) hcs.symm
      rw [World.var?_cell hg hv0 j]
      simpa using hj
    · exact laid_row ht hg hty hD h hr
end
end Go.Proofs.XC

set_option linter.unusedSimpArgs false
set_option linter.unusedVariables false
namespace Go.Proofs.XC
open Go

/-! ### Arrays as values -/
section
variable {ρ : Option Nat} {ds : List Deferred} {P : Program} {T : Tab} {w w' : World} {α : Type} {E : Enc α} {xs : List α} {ad : Addr} {e : Env} {d : Option Tmp} {ty : TypeId} {pos : String} {af : Array Edge} {g : Option (Nat × Bool)}
end
section
variable {ρ : Option Nat} {ds : List Deferred} {P : Program} {T : Tab} {n : Nat} {a : Act} {e : Env} {w : World} {Q : Exit → Act → World → Prop} {K : Act → World → Prop}
theorem op_quiet (ht : TabOK P T) (hk : KnD n ds a e) {o : Oper} {lv lv' : List Value} {v : Value} {c : List Cond} (hq : quietP P T e o lv = some (v, c, lv')) (hc : ConjW w c) (h : K (a.put o.dst v) w) : o.wpIn (WF ρ) 0 P a w K Q :=
  op_of_run (quietP_sound ht hk hq hc) h
end
end Go.Proofs.XC

set_option linter.unusedSimpArgs false
set_option linter.unusedVariables false
namespace Go.Proofs.XC
open Go

/-! ### Calls that turn what their pointers lead to: labels at the begin and at the end -/
section
variable {ρ : Option Nat} {ds : List Deferred} {P : Program} {T : Tab} {w w' W W2 : World} {o o' oi of o2 o1 : Nat → Nat} {L l m : Nat} {M N MM Ls : List Nat}
theorem St.startM (w : World) (o : Nat → Nat) (Ls : List Nat) : ∃ oi : Nat → Nat, (∀ M, St M w oi w oi) ∧ (∀ (P : World → Prop) (L : Nat), L ∉ Ls → Ft P w o L → Ft P w oi 0) ∧
    (∀ (P : World → Prop) (i L : Nat), Ls.idxOf L = i → L ∈ Ls → Ft P w o L → Ft P w oi (i + 1)) ∧ (∀ b, oi b ≤ Ls.length) ∧ (∀ b, oi b = 0 ∨ o b ∈ Ls) ∧ (∀ b i, oi b = i + 1 → Ls[i]? = some (o b)) := by
  refine ⟨fun b => if o b ∈ Ls then Ls.idxOf (o b) + 1 else 0, fun M => St.refl _ _ _, fun P L hL h => h.mono fun b hb _ => ?_, fun P i L hi hL h => h.mono fun b hb _ => ?_, fun b => ?_, fun b => ?_, fun b i h => ?_⟩
  · simp [hb, hL]
  · simp only [hb, hL, if_true]; omega
  · simp only
    split
    · exact List.idxOf_lt_length_iff.2 ‹_›
    · omega
  · simp only
    split
    · exact .inr ‹_›
    · exact .inl rfl
  · simp only at h
    split at h
    · rename_i hm
      have hi : Ls.idxOf (o b) = i := by omega
      subst hi
      rw [List.getElem?_eq_getElem (List.idxOf_lt_length_iff.2 hm), List.getElem_idxOf]
    · omega
theorem St.locM (h : St MM w oi W o) (k : St N W o W2 o2) (h0 : 0 ∉ N) (hm : ∀ b, oi b = 0 ∨ oi b ∈ MM) : St MM w oi W2 o2 :=
  h.then k fun b hb hn => by
    rcases hm b with h1 | h1
    · rw [h1] at hn; exact absurd hn h0
    · exact h1
/-- The labels at the end: of what was there and isn't turned, as they were. -/
def cl (w : World) (oi o : Nat → Nat) (MM : List Nat) (ρ of : Nat → Nat) : Nat → Nat := fun b => if b < w.heap.size ∧ oi b ∉ MM then o b else ρ (of b)
theorem cl_old {ρ of : Nat → Nat} {b : Nat} (h : b < w.heap.size) (hm : oi b ∉ MM) : cl w oi o MM ρ of b = o b := if_pos ⟨h, hm⟩
theorem St.closeM (h : St MM w oi W of) (hz : ∀ b, oi b = 0 ∨ o b ∈ Ls) (h0 : 0 ∉ MM) (ρ : Nat → Nat) : St Ls w o W (cl w oi o MM ρ of) :=
  ⟨h.os, h.tape, h.output, h.size, fun b hb hn => cl_old hb (by
    rcases hz b with h1 | h1
    · rw [h1]; exact h0
    · exact absurd h1 hn), fun b hb hn => h.kept b hb (by
    rcases hz b with h1 | h1
    · rw [h1]; exact h0
    · exact absurd h1 hn)⟩
theorem St.closeM_ft {P : World → Prop} (h : St MM w oi W of) (f : Ft P W of l) {ρ : Nat → Nat} (hm : ∀ b, oi b = l → o b = L) (hρ : ρ l = L) : Ft P W (cl w oi o MM ρ of) L :=
  f.mono fun b hb _ => by
    by_cases hlt : b < w.heap.size ∧ oi b ∉ MM
    · rw [cl_old hlt.1 hlt.2]; exact hm b ((h.lab b hlt.1 hlt.2).symm.trans hb)
    · unfold cl; rw [if_neg hlt, hb, hρ]
theorem St.relabM (h : St MM w oi W o) (hb : ∀ b, oi b ≤ m) (ρ : Nat → Nat) (h0 : ∀ l, l ≤ m → ρ l = l ∨ l ∈ MM) : St MM w oi W (fun b => ρ (o b)) :=
  ⟨h.os, h.tape, h.output, h.size, fun b hlt hm => by rw [h.lab b hlt hm]; exact (h0 _ (hb b)).resolve_right hm, h.kept⟩
theorem lab_in {oi : Nat → Nat} {m : Nat} {MM : List Nat} (hb : ∀ b, oi b ≤ m) (hM : ∀ l, l ≤ m → l = 0 ∨ l ∈ MM) (b : Nat) : oi b = 0 ∨ oi b ∈ MM := hM _ (hb b)
theorem lab_none {oi o : Nat → Nat} {m l L : Nat} (hb : ∀ b, oi b ≤ m) (h : Nat.blt m l = true) (b : Nat) (e : oi b = l) : o b = L := by
  have := hb b
  have h2 : m < l := by simpa using h
  omega
theorem lab_at {oi o : Nat → Nat} {L i : Nat} {Ls : List Nat} (h : ∀ b i, oi b = i + 1 → Ls[i]? = some (o b)) (hi : Ls[i]? = some L) (b : Nat) (e : oi b = i + 1) : o b = L := by
  have := h b i e
  rw [hi] at this
  exact (Option.some.inj this).symm
end
end Go.Proofs.XC

set_option linter.unusedSimpArgs false
set_option linter.unusedVariables false
namespace Go.Proofs.XC
open Go
theorem Kn.pick {n : Nat} {ds : List Deferred} {a : Act} {e : Env} (h : KnD n ds a e) {ks : List Nat} {e' : Env} (hp : XC.pick e ks = some e') : KnD n ds a e' := KnD.pick h hp
theorem Kn.re {n : Nat} {ds : List Deferred} {a : Act} {e : Env} (h : KnD n ds a e) (ks : List Nat) {e1 e2 : Env} (hp : XC.pick e ks = some e1) (he : e1 = e2) : KnD n ds a e2 := KnD.re h ks hp he
section
variable {ρ : Option Nat} {ds : List Deferred} {P : Program} {Q : Exit → Act → World → Prop} {S : World → Prop}
/-- A region that draws, its states named. -/
theorem xd_abs {ol : List Oper} {k : Nat} {ls : Array Bool} {a : Act} {w : World} (h : ∀ G : Nat → Array Bool → Act → World → Prop, (G = fun k ls a w => wpD ρ P ol.toArray Q S k ls a w) → G k ls a w) : wpD ρ P ol.toArray Q S k ls a w := h _ rfl
theorem xd_to {ol : List Oper} {k : Nat} {ls ls' : Array Bool} {a : Act} {w : World} {G : Nat → Array Bool → Act → World → Prop} (hG : G = fun k ls a w => wpD ρ P ol.toArray Q S k ls a w) (hl : ls = ls') (h : G k ls' a w) : wpD ρ P ol.toArray Q S k ls a w := by
  subst hl; subst hG; exact h
theorem xd_of {ol : List Oper} {k : Nat} {ls : Array Bool} {a : Act} {w : World} {G : Nat → Array Bool → Act → World → Prop} (hG : G = fun k ls a w => wpD ρ P ol.toArray Q S k ls a w) (h : wpD ρ P ol.toArray Q S k ls a w) : G k ls a w := by
  subst hG; exact h
end
end Go.Proofs.XC
namespace Go.Proofs.XC
def mnI (x y : Int) : Int := if y < x then y else x
def mxI (x y : Int) : Int := if y > x then y else x
end Go.Proofs.XC

set_option linter.unusedSimpArgs false
set_option linter.unusedVariables false
namespace Go.Proofs.XC
open Go

/-! ### Ranges over functions -/
section
variable {P : Program} {n : Nat} {ds : List Deferred} {a : Act} {e : Env} {w : World} {o : Nat → Nat} {Q : Exit → Act → World → Prop} {K : Act → World → Prop} {α : Type}
def markD (D : Nat) : Deferred := { target := .collected D, args := #[] }
def DM (D : Nat) (w : World) : Prop := w.heap[D]? = some (.deferred (some []))
theorem St.mono {M N : List Nat} {w w' : World} {o o' : Nat → Nat} (h : St M w o w' o') (hs : ∀ l, l ∈ M → l ∈ N) : St N w o w' o' :=
  ⟨h.os, h.tape, h.output, h.size, fun b hb hn => h.lab b hb (fun hm => hn (hs _ hm)), fun b hb hn => h.kept b hb (fun hm => hn (hs _ hm))⟩
theorem putObj_st {w : World} {o : Nat → Nat} {k L : Nat} (ob : Obj) (hL : o k = L) : St [L] w o (w.putObj k ob) o :=
  ⟨rfl, rfl, rfl, by simp, fun _ _ _ => rfl, fun b _ hn => World.putObj_heap_other (fun e => hn (by rw [e, hL]; simp))⟩
/-- A call of yield: what the round makes of the world. -/
def YA (P : Program) (l : Nat) (args : List Value) (w : World) (Φ : Bool → World → Prop) : Prop :=
  ∃ fn tmps assign body, (Instr.yield l args.toArray).run P w = .ok (.round l fn tmps assign body) w ∧ RoundIn (WF none) 0 P l fn tmps assign body w (fun e w' => ∃ b, e = .returned (.bool b) ∧ Φ b w')
theorem op_yield {d : Option Tmp} {t l : Nat} {args : Array Operand} {ts : Array TypeId} {ty : TypeId} {pos : String} {af : Array Edge} {g : Option (Nat × Bool)} {vs : List Value} {Φ : Bool → World → Prop}
    (hk : KnD n ds a e) (hf : look e t = some (.func (.yield l) #[] #[])) (hv : allSome (args.toList.map (evo e)) = some vs) (hy : YA P l vs w Φ) (h : ∀ b w', Φ b w' → K (a.put d (.bool b)) w') :
    (Oper.mk d (.call { callee := .value (.tmp t), args := args, argTypes := ts }) ty pos af g).wpIn (WF none) 0 P a w K Q := by
  obtain ⟨fn, tmps, assign, body, hrun, hr⟩ := hy
  have h1 := allSome_map (ev := evo e) (ρ := a.eval) (fun x v hx => hk.ev hx) _ _ hv
  have h2 : args.map a.eval = vs.toArray := Array.toList_inj.1 (by simpa using h1)
  have h4 : a.eval (.tmp t) = .func (.yield l) #[] #[] := hk.ev (x := .tmp t) hf
  have h3 : (execOp a.eval (Oper.mk d (.call { callee := .value (.tmp t), args := args, argTypes := ts }) ty pos af g)).run P w = .ok (.round l fn tmps assign body) w := by
    simp [execOp, resolve, h4, Deferred.ofValue, invoke, h2, hrun]
  refine ⟨fun _ _ => trivial, ?_⟩
  have e : (Oper.semAt (WF none).round a.eval (Oper.mk d (.call { callee := .value (.tmp t), args := args, argTypes := ts }) ty pos af g)).run P w = .ok (.round l fn tmps assign body) w := wf_res (fun d hd => by cases hd) h3
  rw [e, Oper.uponIn_round]
  refine ⟨fun hd => (by cases hd), RoundIn.mono hr fun en w2 hr2 => ?_⟩
  obtain ⟨b, rfl, hb⟩ := hr2
  exact h b w2 hb
def EvC (Ev : α → List Value → World → Prop) (Le : Option Nat) (x : α) (vs : List Value) (W : World) (o : Nat → Nat) : Prop :=
  match Le with
  | none => ∀ w, Ev x vs w
  | some L => Ft (Ev x vs) W o L
theorem EvC.now {Ev : α → List Value → World → Prop} {Le : Option Nat} {x : α} {vs : List Value} (h : EvC Ev Le x vs w o) : Ev x vs w := by
  cases Le with
  | none => exact h w
  | some L => exact Ft.now h
/-- An iterator: it yields ys, one by one, till it is told to stop; its own blocks bear Li or Lm; it reads what bears Lr; what it hands over stands on Le. -/
def IterC (P : Program) (f : FuncId) (fi ca : List Value) (Ev : α → List Value → World → Prop) (Le : Option Nat) (ys : List α) (w : World) (o : Nat → Nat) (Lm Lr : List Nat) : Prop :=
  ∀ (l : Nat) (J : List α → World → (Nat → Nat) → Prop) (X : World → (Nat → Nat) → Prop) (w1 : World) (o1 : Nat → Nat) (My : List Nat) (Li : Nat),
    St [] w o w1 o1 → (∀ L ∈ My, L ∉ Li :: (Lm ++ Lr)) →
    (∀ rest W oW W' oW', J rest W oW → St (Li :: Lm) W oW W' oW' → J rest W' oW') → (∀ W oW W' oW', X W oW → St (Li :: Lm) W oW W' oW' → X W' oW') →
    (∀ x rest W oW vs, J (x :: rest) W oW → EvC Ev Le x vs W oW → YA P l vs W (fun b W' => ∃ oW', St My W oW W' oW' ∧ (b = true → J rest W' oW') ∧ (b = false → X W' oW'))) →
    J ys w1 o1 → Calls P f (fi ++ Value.func (.yield l) #[] #[] :: ca).toArray w1 (Ret fun _ W' => ∃ oW', J [] W' oW' ∨ X W' oW')

/-! ### Marks of ranges over functions -/
def MK (ds : List Deferred) (w : World) : Prop := ∃ Ds : List Nat, ds = Ds.map markD ∧ Ds.Nodup ∧ ∀ D ∈ Ds, DM D w
theorem MK.nil (w : World) : MK [] w := ⟨[], rfl, List.nodup_nil, by simp⟩
theorem markD_inj {D D' : Nat} (h : markD D = markD D') : D = D' := by
  unfold markD at h
  injection h with h _
  injection h
theorem map_inj : ∀ {Ds Ds' : List Nat}, Ds.map markD = Ds'.map markD → Ds = Ds'
  | [], [], _ => rfl
  | [], _ :: _, h => by simp at h
  | _ :: _, [], h => by simp at h
  | D :: Ds, D' :: Ds', h => by
    simp only [List.map_cons, List.cons.injEq] at h
    rw [markD_inj h.1, map_inj h.2]
theorem mk_cons {D L : Nat} {oW : Nat → Nat} {W : World} (h : Ft (MK ds) W oW L) (hD : DM D W) (ho : oW D = L) (hn : markD D ∉ ds) : Ft (MK (markD D :: ds)) W oW L := fun w' hw => by
  obtain ⟨Ds, rfl, hnd, hall⟩ := h w' hw
  have hlt : D < W.heap.size := (Array.getElem?_eq_some_iff.1 hD).1
  refine ⟨D :: Ds, rfl, List.nodup_cons.2 ⟨fun hm => hn (List.mem_map.2 ⟨D, hm, rfl⟩), hnd⟩, fun D' hD' => ?_⟩
  rcases List.mem_cons.1 hD' with rfl | hD'
  · exact (hw D' ho hlt).trans hD
  · exact hall D' hD'
theorem mk_new {w : World} (h : MK ds w) : markD w.heap.size ∉ ds := fun hm => by
  obtain ⟨Ds, rfl, _, hall⟩ := h
  obtain ⟨D, hD, he⟩ := List.mem_map.1 hm
  have := hall D hD
  rw [markD_inj he] at this
  have := (Array.getElem?_eq_some_iff.1 this).1
  omega
theorem mk_lab {L : Nat} {Ds : List Nat} (h : Ft (MK (Ds.map markD)) w o L) {D : Nat} (hD : D ∈ Ds) : o D = L := by
  by_cases ho : o D = L
  · exact ho
  · obtain ⟨Ds', he, _, hall⟩ := h.now
    have he := map_inj he
    subst he
    have h1 := hall D hD
    have hlt : D < w.heap.size := (Array.getElem?_eq_some_iff.1 h1).1
    obtain ⟨Ds'', he, _, hall2⟩ := h { w with heap := w.heap.set D (.map #[] 0) hlt } (fun c hc hcl => by
      have : c ≠ D := fun e => ho (e ▸ hc)
      simp [Array.getElem?_set, Ne.symm this])
    have he := map_inj he
    subst he
    have h2 := hall2 D hD
    unfold DM at h2
    simp at h2
/-- What a body that has ranges over functions must end in. -/
def bodyQ (P : Program) (fn : Func) (Φ : Value → World → Prop) : Exit → Act → World → Prop
  | .normal, a, w | .ret, a, w => LeavesInM (WF none) 0 P fn a.tmps (Ret Φ) a.defers .returning w
  | _, _, _ => False
theorem x_marks {fn : Func} {Φ : Value → World → Prop} {L : Nat} (hk : KnD n ds a e) (hM : Ft (MK ds) w o L) (h : ∀ a' w', KnD n [] a' e → St [L] w o w' o → bodyPost P fn (Ret Φ) .ret a' w') : LeavesInM (WF none) 0 P fn a.tmps (Ret Φ) a.defers .returning w := by
  obtain ⟨Ds, hds, hnd, hall⟩ := hM.now
  subst hds
  have hlab := fun D hD => mk_lab hM (D := D) hD
  rw [hk.defers]
  have key : ∀ (Es : List Nat) (W : World), Es.Nodup → (∀ D ∈ Es, DM D W) → (∀ D ∈ Es, o D = L) → St [L] w o W o → LeavesInM (WF none) 0 P fn a.tmps (Ret Φ) (Es.map markD) .returning W := by
    intro Es
    induction Es with
    | nil =>
      intro W _ _ _ hs
      obtain ⟨_, v, hr, hv⟩ := h { a with defers := [] } W ⟨hk.size, rfl, hk.at_⟩ hs
      exact ⟨v, hr, hv⟩
    | cons D Es ih =>
      intro W hn hd hl hs
      refine ⟨by simp, .inl ⟨D, _, rfl, run_takeDeferred (hd D (by simp)), ih _ (List.nodup_cons.1 hn).2 (fun D' hD' => ?_) (fun D' hD' => hl D' (by simp [hD'])) (hs.trans (putObj_st _ (hl D (by simp))))⟩⟩
      have hne : D' ≠ D := fun e => (List.nodup_cons.1 hn).1 (e ▸ hD')
      exact (World.putObj_heap_other hne).trans (hd D' (by simp [hD']))
  exact key Ds w hnd hall hlab (St.refl _ _ _)
theorem x_retQ {fn : Func} {Φ : Value → World → Prop} {L : Nat} (hk : KnD n ds a e) (hM : Ft (MK ds) w o L) (h : ∀ w' a', St [L] w o w' o → KnD n [] a' e → bodyPost P fn (Ret Φ) .ret a' w') : bodyQ P fn Φ .ret a w :=
  x_marks hk hM fun a' w' hk' hs => h w' a' hs hk'
theorem x_enterQ {f : FuncId} {fn : Func} {c : Code} {vs : List Value} {Φ : Value → World → Prop} (hf : P.funcs[f]? = some fn) (hb : fn.body = some c) (hn : fn.ntmps = n) (hl : Nat.ble vs.length n = true)
    (h : ∀ a, KnD n [] a (entryE 0 vs) → c.wpIn (WF none) 0 P (bodyQ P fn Φ) a w) : Calls P f vs.toArray w (Ret Φ) := by
  subst hn
  have hl' : vs.length ≤ fn.ntmps := by simpa using hl
  refine callsIn_wide.1 (callsIn_of_wp_marks (F := WF none) (n := 0) hf hb trivial (wpIn_mono (h _ ⟨by simp; omega, rfl, fun t v hv => ?_⟩) (fun ex a w hq => ?_)) rfl)
  · obtain ⟨j, rfl, hj⟩ := look_entry vs 0 t v hv
    have hjl : j < vs.length := (List.getElem?_eq_some_iff.1 hj).1
    simp only [Nat.zero_add]
    rw [Array.getElem?_append_left (by simpa using hjl)]
    simpa using hj
  · cases ex <;> first | exact hq | exact hq.elim

/-! ### The consumer -/
/-- How a round may be left. -/
def RQ (I : List α → World → (Nat → Nat) → Prop) (X : Code → World → (Nat → Nat) → Prop) (R1 : World → Prop) (M : List Nat) (rest : List α) (W : World) (oW : Nat → Nat) : Exit → Act → World → Prop
  | .normal, _, W' => ∃ oW', St M W oW W' oW' ∧ Ft R1 W' oW' (M.headD 0) ∧ I rest W' oW'
  | .ret, _, W' => ∃ oW', St M W oW W' oW' ∧ Ft R1 W' oW' (M.headD 0) ∧ X .ret W' oW'
  | .exit id, _, W' => ∃ oW', St M W oW W' oW' ∧ Ft R1 W' oW' (M.headD 0) ∧ X (.exit id) W' oW'
  | _, _, _ => False
theorem np_RQ {I : List α → World → (Nat → Nat) → Prop} {X : Code → World → (Nat → Nat) → Prop} {R1 : World → Prop} {M : List Nat} {rest : List α} {W : World} {oW : Nat → Nat} : NP (RQ I X R1 M rest W oW) := fun _ _ _ h => h
theorem heap_lab {k L : Nat} {lp : Loop} {W : World} {oW : Nat → Nat} (h : Ft (fun V => V.heap[k]? = some (.loop lp)) W oW L) : oW k = L := by
  by_cases ho : oW k = L
  · exact ho
  · have hlt := (Array.getElem?_eq_some_iff.1 h.now).1
    have h2 := h { W with heap := W.heap.set k (.map #[] 0) hlt } (fun c hc hcl => by
      have : c ≠ k := fun e => ho (e ▸ hc)
      simp [Array.getElem?_set, Ne.symm this])
    simp at h2
def zipE : List Tmp → List Value → Env → Env
  | p :: ps, v :: vs, e => zipE ps vs ((p, v) :: e)
  | _, _, e => e
theorem kn_zip : ∀ (ps : List Tmp) (vs : List Value) (tmps : Array Value) (e : Env), (∀ p ∈ ps, p < n) → KnD n [] { tmps := tmps, defers := [] } e →
    KnD n [] { tmps := (ps.zip vs).foldl (fun t (p, v) => t.setIfInBounds p v) tmps, defers := [] } (zipE ps vs e)
  | [], _, tmps, e, _, h => by simpa [zipE] using h
  | p :: ps, [], tmps, e, _, h => by simpa [zipE] using h
  | p :: ps, v :: vs, tmps, e, hp, h => by
    simp only [List.zip_cons_cons, List.foldl_cons, zipE]
    refine kn_zip ps vs _ _ (fun q hq => hp q (by simp [hq])) ?_
    exact h.put p v (by simpa using hp p (by simp))
/-- The labels of a range over a function keep apart. -/
def disB (Ld Lb Li : Nat) (My Lm Lr : List Nat) : Bool := (Lb :: My).all (fun L => !(Li :: (Lm ++ Lr)).contains L) && !(Lb :: Li :: Lm ++ My).contains Ld && !My.contains Lb
theorem x_range {f : FuncId} {fi ca : List Value} {Ev : α → List Value → World → Prop} {Le : Option Nat} {ys : List α} {Lm Lr : List Nat} {t : Nat} {ps : Array Tmp} {assign body : Code} (Ld Lb Li : Nat) (My : List Nat)
    (hk : KnD n ds a e) (hf : look e t = some (.func (.func f) fi.toArray ca.toArray)) (he : EntersF P f) (It : IterC P f fi ca Ev Le ys w o Lm Lr) (hM : Ft (MK ds) w o Ld)
    (hps : ∀ x vs w, Ev x vs w → vs.length = ps.size) (hpn : ps.toList.all (fun p => Nat.blt p n) = true) (hdis : disB Ld Lb Li My Lm Lr = true)
    (I : List α → World → (Nat → Nat) → Prop) (X : Code → World → (Nat → Nat) → Prop)
    (hI : ∀ rest W oW W' oW', I rest W oW → St (Lb :: Li :: Lm) W oW W' oW' → I rest W' oW') (hX : ∀ c W oW W' oW', X c W oW → St (Lb :: Li :: Lm) W oW W' oW' → X c W' oW')
    (h0 : I ys w o)
    (hround : ∀ (R0 R1 : World → Prop) (l : Nat) (x : α) (vs : List Value) (rest : List α) (W : World) (oW : Nat → Nat), I (x :: rest) W oW → EvC Ev Le x vs W oW → Ft R0 W oW Lb → ∀ a1, KnD n [] a1 (zipE ps.toList vs e) →
      assign.wpIn (WF (some l)) 0 P (Exit.then (fun a2 W2 => ∃ o2, Ft R0 W2 o2 Lb ∧ ∀ W3, St [Lb] W2 o2 W3 o2 → Ft R1 W3 o2 Lb → body.wpIn (WF (some l)) 0 P (RQ I X R1 (Lb :: My) rest W oW) a2 W3) (fun _ _ _ => False)) a1 W)
    (hdone : ∀ ds' W oW a', KnD n ds' a' e → Ft (MK ds') W oW Ld → I [] W oW → Q .normal a' W)
    (hstop : ∀ c ds' W oW a', KnD n ds' a' e → Ft (MK ds') W oW Ld → X c W oW → c.wpIn (WF none) 0 P Q a' W) :
    (Code.rangeFunc (.tmp t) ps assign body).wpIn (WF none) 0 P Q a w := by
  simp only [disB, Bool.and_eq_true, List.all_eq_true, Bool.not_eq_true', List.contains_eq_mem, decide_eq_false_iff_not] at hdis
  obtain ⟨⟨hdis, hLd⟩, hLb⟩ := hdis
  refine wpIn_rangeFunc ?_
  intro fn hfn
  obtain ⟨rec, hrec⟩ : ∃ rec : LoopState → Option Code → Loop, rec = fun st pe => { state := st, pending := pe, fn, tmps := a.tmps, params := ps, assign, body, defers := w.heap.size } := ⟨_, rfl⟩
  obtain ⟨W1, hW1⟩ : ∃ W1, (w.alloc (.deferred (some []))).alloc (.loop (rec .ready none)) = W1 := ⟨_, rfl⟩
  obtain ⟨o1, ho1⟩ : ∃ o1, newLab (newLab o w.heap.size Ld) (w.heap.size + 1) Lb = o1 := ⟨_, rfl⟩
  have hsz : (w.alloc (.deferred (some []))).heap.size = w.heap.size + 1 := by simp
  have hL1 : W1.heap[w.heap.size + 1]? = some (.loop (rec .ready none)) := by
    rw [← hW1, ← hsz]; exact World.alloc_heap_new _ _
  have hK1 : DM w.heap.size W1 := by
    show W1.heap[w.heap.size]? = _
    rw [← hW1, heap_alloc_old _ _ (by rw [hsz]; omega)]; exact World.alloc_heap_new w _
  have hs1 : St [] w o W1 o1 := by
    have h2 := St.alloc [] (w.alloc (.deferred (some []))) (newLab o w.heap.size Ld) (.loop (rec .ready none)) Lb
    rw [hsz, ho1, hW1] at h2
    exact (St.alloc [] w o (.deferred (some [])) Ld).trans h2
  have hoD : o1 w.heap.size = Ld := by rw [← ho1]; simp [newLab]
  have hol : o1 (w.heap.size + 1) = Lb := by rw [← ho1]; simp [newLab]
  have hnew := mk_new hM.now
  have hLbm : Lb ∉ Li :: Lm := fun h => hdis Lb (by simp) (by
    rcases List.mem_cons.1 h with h | h
    · simp [h]
    · simp [h])
  have hLdm : Ld ∉ Li :: Lm := fun h => hLd (by
    rcases List.mem_cons.1 h with h | h
    · simp [h]
    · simp [h])
  have hLdy : Ld ∉ Lb :: My := fun h => hLd (by
    rcases List.mem_cons.1 h with h | h
    · simp [h]
    · simp [h])
  have hLdb : Ld ∉ [Lb] := fun h => hLd (by simp at h; simp [h])
  -- what holds between two rounds
  obtain ⟨J, hJ⟩ : ∃ J : List α → World → (Nat → Nat) → Prop, J = fun rest W oW => I rest W oW ∧ W.heap[w.heap.size + 1]? = some (.loop (rec .ready none)) ∧ DM w.heap.size W ∧ oW w.heap.size = Ld ∧ oW (w.heap.size + 1) = Lb ∧ Ft (MK ds) W oW Ld := ⟨_, rfl⟩
  obtain ⟨XJ, hXJ⟩ : ∃ XJ : World → (Nat → Nat) → Prop, XJ = fun W oW => ∃ c, X c W oW ∧ W.heap[w.heap.size + 1]? = some (.loop (rec .done (some c))) ∧ DM w.heap.size W ∧ oW w.heap.size = Ld ∧ oW (w.heap.size + 1) = Lb ∧ Ft (MK ds) W oW Ld := ⟨_, rfl⟩
  have keep : ∀ {M : List Nat} {W W' : World} {oW oW' : Nat → Nat} {k L : Nat} {ob : Obj}, St M W oW W' oW' → L ∉ M → oW k = L → W.heap[k]? = some ob → W'.heap[k]? = some ob ∧ oW' k = L := fun hs hM hk hob => by
    have hlt := (Array.getElem?_eq_some_iff.1 hob).1
    exact ⟨(hs.kept _ hlt (by rw [hk]; exact hM)).trans hob, (hs.lab _ hlt (by rw [hk]; exact hM)).trans hk⟩
  refine ⟨w.heap.size + 1, [markD w.heap.size], W1, { target := .fn (.func f) ca.toArray, args := (fi ++ [Value.func (.yield (w.heap.size + 1)) #[] #[]]).toArray }, W1, f, (fi ++ Value.func (.yield (w.heap.size + 1)) #[] #[] :: ca).toArray, W1, ?_, ?_, fun _ _ => trivial, ?_, fun hd => (by cases hd), ?_⟩
  · rw [← hW1, hrec]; exact run_enterLoop_outer _ _ _ _ _
  · have hev : a.eval (.tmp t) = .func (.func f) fi.toArray ca.toArray := hk.ev (x := .tmp t) hf
    have hec : a.eval (.const (.func (.yield (w.heap.size + 1)) #[] #[])) = .func (.yield (w.heap.size + 1)) #[] #[] := rfl
    simp [rangeCall, resolve, hev, hec, Deferred.ofValue]
  · have := he ((fi ++ [Value.func (.yield (w.heap.size + 1)) #[] #[]]).toArray ++ ca.toArray) W1
    simpa [invoke] using this
  · refine CallsIn.mono (wf_calls (It (w.heap.size + 1) J XJ W1 o1 (Lb :: My) Li hs1 hdis ?_ ?_ ?_ ?_)) ?_
    · intro rest W oW W' oW' hj hs
      subst hJ
      obtain ⟨hi, hl, hd, h1, h2, h3⟩ := hj
      exact ⟨hI _ _ _ _ _ hi (hs.mono fun l hl => List.mem_cons_of_mem _ hl), (keep hs hLbm h2 hl).1, (keep hs hLdm h1 hd).1, (keep hs hLdm h1 hd).2, (keep hs hLbm h2 hl).2, h3.st hs hLdm⟩
    · intro W oW W' oW' hj hs
      subst hXJ
      obtain ⟨c, hi, hl, hd, h1, h2, h3⟩ := hj
      exact ⟨c, hX _ _ _ _ _ hi (hs.mono fun l hl => List.mem_cons_of_mem _ hl), (keep hs hLbm h2 hl).1, (keep hs hLdm h1 hd).1, (keep hs hLdm h1 hd).2, (keep hs hLbm h2 hl).2, h3.st hs hLdm⟩
    · -- a round
      intro x rest W oW vs hj hE
      rw [hJ] at hj
      obtain ⟨hi, hl, hd, h1, h2, h3⟩ := hj
      have hy := run_yield (P := P) (args := vs.toArray) hl (by rw [hrec]; simpa using hps x vs W hE.now)
      rw [hrec] at hy
      refine ⟨fn, _, assign, body, hy, roundIn_of_wpIn hfn ?_⟩
      have hkz : KnD n [] { tmps := (ps.zip vs.toArray).foldl (fun t (p, v) => t.setIfInBounds p v) a.tmps, defers := [] } (zipE ps.toList vs e) := by
        have := kn_zip (n := n) ps.toList vs a.tmps e (fun p hp => by simpa using List.all_eq_true.1 hpn p hp) ⟨hk.size, rfl, hk.at_⟩
        rw [← Array.foldl_toList, Array.toList_zip]
        simpa using this
      have rft : ∀ {W : World} {oW : Nat → Nat} {ob : Obj}, W.heap[w.heap.size + 1]? = some ob → oW (w.heap.size + 1) = Lb → Ft (fun V => V.heap[w.heap.size + 1]? = some ob) W oW Lb := fun {W oW ob} hob ho w' hw =>
        (hw _ ho (Array.getElem?_eq_some_iff.1 hob).1).trans hob
      refine wpIn_mono (hround (fun V => V.heap[w.heap.size + 1]? = some (.loop (rec .ready none))) (fun V => V.heap[w.heap.size + 1]? = some (.loop { rec .ready none with state := .busy })) (w.heap.size + 1) x vs rest W oW hi hE (rft hl h2) _ hkz) fun ex a2 W2 hq => ?_
      cases ex <;> first | exact hq.elim | skip
      obtain ⟨o2, hr0, hbody⟩ := hq
      have hl2 := hr0.now
      have ho2 : o2 (w.heap.size + 1) = Lb := heap_lab hr0
      have hlt2 := (Array.getElem?_eq_some_iff.1 hl2).1
      refine ⟨_, run_beginRound hl2 (by rw [hrec]), ?_⟩
      have hsb := putObj_st (w := W2) (o := o2) (.loop { rec .ready none with state := .busy }) ho2
      have hlb : (W2.putObj (w.heap.size + 1) (.loop { rec .ready none with state := .busy })).heap[w.heap.size + 1]? = some (.loop { rec .ready none with state := .busy }) := World.putObj_heap_same hlt2
      -- the round's end
      have fin : ∀ (jump : Option Code) (W3 : World) (o3 : Nat → Nat), St (Lb :: My) W oW W3 o3 → Ft (fun V => V.heap[w.heap.size + 1]? = some (.loop { rec .ready none with state := .busy })) W3 o3 Lb →
          ∃ W4, (Instr.endRound (w.heap.size + 1) jump).run P W3 = .ok (.bool jump.isNone) W4 ∧ St (Lb :: My) W oW W4 o3 ∧ St [Lb] W3 o3 W4 o3 ∧
            W4.heap[w.heap.size + 1]? = some (.loop (rec (if jump.isNone then .ready else .done) jump)) ∧ DM w.heap.size W4 ∧ o3 w.heap.size = Ld ∧ o3 (w.heap.size + 1) = Lb ∧ Ft (MK ds) W4 o3 Ld := fun jump W3 o3 hs3 hb3' => by
        have hb3 := hb3'.now
        have k2 := keep hs3 hLdy h1 hd
        have k1 : o3 (w.heap.size + 1) = Lb := heap_lab hb3'
        have hlt3 := (Array.getElem?_eq_some_iff.1 hb3).1
        have hse := putObj_st (w := W3) (o := o3) (.loop (rec (if jump.isNone then .ready else .done) jump)) k1
        have hr := run_endRound (P := P) jump hb3
        rw [hrec] at hr hse ⊢
        refine ⟨_, hr, hs3.trans (hse.mono fun l hl => ?_), hse, World.putObj_heap_same hlt3, (World.putObj_heap_other (by omega)).trans k2.1, k2.2, k1, (h3.st hs3 hLdy).st hse hLdb⟩
        simp at hl; simp [hl]
      refine wpIn_mono (hbody _ hsb (rft hlb ho2)) fun ex a3 W3 hq => ?_
      cases ex with
      | normal =>
        obtain ⟨o3, hs3, hb3, hi3⟩ := hq
        obtain ⟨W4, hr, hs4, hse, hl4, hd4, e1', e2', e3'⟩ := fin none W3 o3 hs3 hb3
        refine ⟨_, W4, hr, true, rfl, o3, hs4, fun _ => ?_, fun hb => by cases hb⟩
        rw [hJ]
        exact ⟨hI _ _ _ _ _ hi3 (hse.mono fun l hl => by simp at hl ⊢; simp [hl]), hl4, hd4, e1', e2', e3'⟩
      | ret =>
        obtain ⟨o3, hs3, hb3, hi3⟩ := hq
        obtain ⟨W4, hr, hs4, hse, hl4, hd4, e1', e2', e3'⟩ := fin (some .ret) W3 o3 hs3 hb3
        refine ⟨_, W4, hr, false, rfl, o3, hs4, fun hb => (by cases hb), fun _ => ?_⟩
        rw [hXJ]
        exact ⟨.ret, hX _ _ _ _ _ hi3 (hse.mono fun l hl => by simp at hl ⊢; simp [hl]), hl4, hd4, e1', e2', e3'⟩
      | exit id =>
        obtain ⟨o3, hs3, hb3, hi3⟩ := hq
        obtain ⟨W4, hr, hs4, hse, hl4, hd4, e1', e2', e3'⟩ := fin (some (.exit id)) W3 o3 hs3 hb3
        refine ⟨_, W4, hr, false, rfl, o3, hs4, fun hb => (by cases hb), fun _ => ?_⟩
        rw [hXJ]
        exact ⟨.exit id, hX _ _ _ _ _ hi3 (hse.mono fun l hl => by simp at hl ⊢; simp [hl]), hl4, hd4, e1', e2', e3'⟩
      | goto t => exact hq.elim
      | panic ch => exact hq.elim
      | outgrown => exact hq.elim
    · rw [hJ]; exact ⟨hI _ _ _ _ _ h0 (hs1.mono fun l hl => by simp at hl), hL1, hK1, hoD, hol, hM.st hs1 (by simp)⟩
    · -- behind the iterator
      rintro en W2 ⟨v, rfl, oW, hj⟩
      have hka : KnD n (markD w.heap.size :: ds) { a with defers := [markD w.heap.size] ++ a.defers } e := ⟨hk.size, by simp [hk.defers], hk.at_⟩
      rcases hj with hj | hj
      · rw [hJ] at hj
        obtain ⟨hi, hl, hd, h1, h2, h3⟩ := hj
        have hse := putObj_st (w := W2) (o := oW) (.loop { rec .ready none with state := .exhausted }) h2
        have hr : (Instr.endLoop (w.heap.size + 1)).run P W2 = .ok none (W2.putObj (w.heap.size + 1) (.loop { rec .ready none with state := .exhausted })) := by
          have := run_endLoop (P := P) hl (by rw [hrec]; simp); rw [hrec] at this ⊢; exact this
        exact ⟨none, _, hr, hdone _ _ oW _ hka (mk_cons (h3.st hse hLdb) ((World.putObj_heap_other (by omega)).trans hd) h1 hnew) (hI _ _ _ _ _ hi (hse.mono fun l hl => by simp at hl ⊢; simp [hl]))⟩
      · rw [hXJ] at hj
        obtain ⟨c, hi, hl, hd, h1, h2, h3⟩ := hj
        have hse := putObj_st (w := W2) (o := oW) (.loop { rec .done (some c) with state := .exhausted }) h2
        have hr : (Instr.endLoop (w.heap.size + 1)).run P W2 = .ok (some c) (W2.putObj (w.heap.size + 1) (.loop { rec .done (some c) with state := .exhausted })) := by
          have := run_endLoop (P := P) hl (by rw [hrec]; simp); rw [hrec] at this ⊢; exact this
        exact ⟨some c, _, hr, hstop c _ _ oW _ hka (mk_cons (h3.st hse hLdb) ((World.putObj_heap_other (by omega)).trans hd) h1 hnew) (hX _ _ _ _ _ hi (hse.mono fun l hl => by simp at hl ⊢; simp [hl]))⟩

/-! ### Labels in a round -/
theorem St.startB (W : World) (oW : Nat → Nat) (B : Nat) : ∃ oi : Nat → Nat, (∀ M, St M W oi W oi) ∧ (∀ {P : World → Prop} {l : Nat}, Ft P W oW l → Nat.ble l B = true → Ft P W oi l) ∧ (∀ b, oi b ≤ B + 1) ∧ (∀ b, oi b ≤ B → oW b = oi b) := by
  refine ⟨fun b => if oW b ≤ B then oW b else B + 1, fun M => St.refl _ _ _, fun {P l} h hl => h.mono fun b hb _ => ?_, fun b => ?_, fun b => ?_⟩
  · have : l ≤ B := by simpa using hl
    simp [hb, this]
  · simp only; split <;> omega
  · simp only; split
    · intro _; rfl
    · omega
theorem St.locB {MM N : List Nat} {m : Nat} {oi o2 : Nat → Nat} {W W2 : World} (h : St MM w oi W o) (k : St N W o W2 o2) (hn : (N.all fun l => MM.contains l || Nat.blt m l) = true) (hb : ∀ b, oi b ≤ m) : St MM w oi W2 o2 :=
  h.then k fun b _ hbn => by
    have := List.all_eq_true.1 hn _ hbn
    simp only [Bool.or_eq_true] at this
    rcases this with h1 | h1
    · simpa using h1
    · have h2 := hb b
      have h3 : m < oi b := by simpa using h1
      omega
theorem St.closeB {MM : List Nat} {B : Nat} {oi of oW : Nat → Nat} {W W' : World} (h : St MM W oi W' of) (hoi : ∀ b, oi b ≤ B → oW b = oi b) (hb : ∀ b, oi b ≤ B + 1) (hM : MM.all (fun l => Nat.ble l B) = true) (ρ : Nat → Nat) : St MM W oW W' (cl W oi oW MM ρ of) :=
  ⟨h.os, h.tape, h.output, h.size, fun b hb hn => cl_old hb (fun hm => hn (by
    have := List.all_eq_true.1 hM _ hm
    rw [hoi b (by simpa using this)]; exact hm)), fun b hlt hn => h.kept b hlt fun hm => hn (by
    have := List.all_eq_true.1 hM _ hm
    rw [hoi b (by simpa using this)]; exact hm)⟩
theorem lab_atB {oi oW : Nat → Nat} {B l : Nat} (hoi : ∀ b, oi b ≤ B → oW b = oi b) (hl : Nat.ble l B = true) (b : Nat) (e : oi b = l) : oW b = l :=
  (hoi b (by rw [e]; simpa using hl)).trans e

/-! ### The iterator -/
/-- Its labels within, and those without. -/
def Lk (Lm Lr : List Nat) (Le : Option Nat) (Li : Nat) (W : World) (oi oe : Nat → Nat) : Prop := ∀ b, b < W.heap.size →
  oi b = 0 ∨ (∃ i, oi b = i + 1 ∧ Lm[i]? = some (oe b)) ∨ (oi b = Lm.length + 1 ∧ (Le = some (oe b) ∨ (Le = none ∧ oe b = Li))) ∨ (oi b = Lm.length + 2 ∧ (oe b ∈ Lr ∨ oe b = Li)) ∨ (Lm.length + 2 < oi b ∧ oe b = Li)
def okN (m : Nat) (N : List Nat) : Bool := N.all fun l => (Nat.blt 0 l && Nat.ble l m) || Nat.blt (m + 2) l
theorem Lk.step {Lm Lr N : List Nat} {Le : Option Nat} {Li : Nat} {W W' : World} {oi oi' oe : Nat → Nat} (h : Lk Lm Lr Le Li W oi oe) (hs : St N W oi W' oi') (hN : okN Lm.length N = true) :
    ∃ oe', St (Li :: Lm) W oe W' oe' ∧ Lk Lm Lr Le Li W' oi' oe' := by
  have key : ∀ b, b < W.heap.size → oe b ∉ Li :: Lm → oi b ∉ N := fun b hb hn hm => by
    have h1 := List.all_eq_true.1 hN _ hm
    simp only [Bool.or_eq_true, Bool.and_eq_true] at h1
    rcases h b hb with h2 | ⟨i, h2, h3⟩ | ⟨h2, h3⟩ | ⟨h2, h3⟩ | ⟨h2, h3⟩
    · rw [h2] at h1; simp at h1
    · exact hn (List.mem_cons_of_mem _ (List.mem_of_getElem? h3))
    · rw [h2] at h1; simp at h1; omega
    · rw [h2] at h1; simp at h1; omega
    · exact hn (by simp [h3])
  refine ⟨fun b => if b < W.heap.size ∧ oi b ∉ N then oe b else if oi' b = 0 then Li else if oi' b = Lm.length + 1 then Le.getD Li else (Lm[oi' b - 1]?).getD Li, ⟨hs.os, hs.tape, hs.output, hs.size, fun b hb hn => if_pos ⟨hb, key b hb hn⟩, fun b hb hn => hs.kept b hb (key b hb hn)⟩, fun b hb => ?_⟩
  · by_cases hlt : b < W.heap.size ∧ oi b ∉ N
    · simp only [hlt, if_true, not_false_eq_true, and_self]
      rw [hs.lab b hlt.1 hlt.2]
      exact h b hlt.1
    · simp only [hlt, if_false]
      rcases Nat.eq_zero_or_pos (oi' b) with h0 | h0
      · exact .inl h0
      · have hne : oi' b ≠ 0 := by omega
        simp only [hne, if_false]
        by_cases h1 : oi' b = Lm.length + 1
        · refine .inr (.inr (.inl ⟨h1, ?_⟩))
          simp only [h1, if_true]
          cases Le with
          | none => exact .inr ⟨rfl, rfl⟩
          | some L => exact .inl rfl
        · simp only [h1, if_false]
          by_cases hi : oi' b - 1 < Lm.length
          · exact .inr (.inl ⟨oi' b - 1, by omega, by rw [List.getElem?_eq_getElem hi]; rfl⟩)
          · have hg : (Lm[oi' b - 1]?).getD Li = Li := by rw [List.getElem?_eq_none (by omega)]; rfl
            rw [hg]
            by_cases h2 : oi' b = Lm.length + 2
            · exact .inr (.inr (.inr (.inl ⟨h2, .inr rfl⟩)))
            · exact .inr (.inr (.inr (.inr ⟨by omega, rfl⟩)))
theorem Lk.relab {Lm Lr : List Nat} {Le : Option Nat} {Li : Nat} {W : World} {oi oe : Nat → Nat} (h : Lk Lm Lr Le Li W oi oe) {ρ : Nat → Nat} {p : Nat} (hp : Lm.length + 2 = p) (h1 : ∀ l, l ≤ p → ρ l = l) (h2 : ∀ l, p < l → p < ρ l) : Lk Lm Lr Le Li W (fun b => ρ (oi b)) oe := fun b hb => by
  subst hp
  rcases h b hb with h3 | ⟨i, h3, h4⟩ | ⟨h3, h4⟩ | ⟨h3, h4⟩ | ⟨h3, h4⟩
  · exact .inl (by simp only [h3]; exact h1 0 (by omega))
  · have hi : i < Lm.length := (List.getElem?_eq_some_iff.1 h4).1
    exact .inr (.inl ⟨i, by simp only [h3]; exact h1 _ (by omega), h4⟩)
  · exact .inr (.inr (.inl ⟨by simp only [h3]; exact h1 _ (by omega), h4⟩))
  · exact .inr (.inr (.inr (.inl ⟨by simp only [h3]; exact h1 _ (by omega), h4⟩)))
  · exact .inr (.inr (.inr (.inr ⟨h2 _ h3, h4⟩)))
theorem iter_start {f : FuncId} {fi ca : List Value} {Ev : α → List Value → World → Prop} {Le : Option Nat} {ys : List α} {Lm Lr : List Nat} (hd : Lm.Nodup) (hLe : ∀ L, Le = some L → L ∈ Lr)
    (h : ∀ (l : Nat) (JJ : List α → World → (Nat → Nat) → Prop) (XX : World → (Nat → Nat) → Prop) (Res : World → Prop) (w1 : World) (oi : Nat → Nat),
      (∀ {Pd : World → Prop} {L : Nat} (i j : Nat), Ft Pd w o L → Lm[i]? = some L → i + 1 = j → Ft Pd w1 oi j) → (∀ {Pd : World → Prop} {L : Nat} (i : Nat), Ft Pd w o L → Le = some L → L ∉ Lm → Lm.length + 1 = i → Ft Pd w1 oi i) →
      (∀ {Pd : World → Prop} {L : Nat} (i : Nat), Ft Pd w o L → L ∈ Lr → L ∉ Lm → Le ≠ some L → Lm.length + 2 = i → Ft Pd w1 oi i) →
      (∀ {r W oW N W' oW'}, JJ r W oW → St N W oW W' oW' → okN Lm.length N = true → JJ r W' oW') → (∀ {W oW N W' oW'}, XX W oW → St N W oW W' oW' → okN Lm.length N = true → XX W' oW') →
      (∀ {r W oW} (ρ : Nat → Nat) {p : Nat}, JJ r W oW → Lm.length + 2 = p → (∀ l, l ≤ p → ρ l = l) → (∀ l, p < l → p < ρ l) → JJ r W (fun b => ρ (oW b))) →
      (∀ {x rest W oW vs}, JJ (x :: rest) W oW → EvC Ev (Le.map fun _ => Lm.length + 1) x vs W oW → YA P l vs W (fun b W' => ∃ oW', St [0] W oW W' oW' ∧ (b = true → JJ rest W' oW') ∧ (b = false → XX W' oW'))) →
      (∀ {W oW}, JJ [] W oW → Res W) → (∀ {W oW}, XX W oW → Res W) → JJ ys w1 oi → Calls P f (fi ++ Value.func (.yield l) #[] #[] :: ca).toArray w1 (Ret fun _ W' => Res W')) : IterC P f fi ca Ev Le ys w o Lm Lr := by
  intro l J X w1 o1 My Li hs1 hMy hJ hX hY h0
  refine h l (fun r W oi => ∃ oe, J r W oe ∧ Lk Lm Lr Le Li W oi oe) (fun W oi => ∃ oe, X W oe ∧ Lk Lm Lr Le Li W oi oe) (fun W' => ∃ oW', J [] W' oW' ∨ X W' oW') w1 (fun b => if o1 b ∈ Lm then Lm.idxOf (o1 b) + 1 else if Le = some (o1 b) then Lm.length + 1 else if o1 b ∈ Lr then Lm.length + 2 else 0) ?_ ?_ ?_ ?_ ?_ ?_ ?_ ?_ ?_ ⟨o1, h0, fun b _ => ?_⟩
  · intro Pd L i j hf hi hj
    subst hj
    refine (hf.st hs1 (by simp)).mono fun b hb _ => ?_
    have hm := List.mem_of_getElem? hi
    have hlt : i < Lm.length := (List.getElem?_eq_some_iff.1 hi).1
    have : Lm.idxOf L = i := by
      have he : Lm[i] = L := (List.getElem?_eq_some_iff.1 hi).2
      rw [← he]; exact hd.idxOf_getElem i hlt
    simp only [hb, hm, if_true, this]
  · intro Pd L i hf hL hn hi
    subst hi
    refine (hf.st hs1 (by simp)).mono fun b hb _ => ?_
    simp only [hb, hn, hL, if_true, if_false]
  · intro Pd L i hf hL hn hne hi
    subst hi
    refine (hf.st hs1 (by simp)).mono fun b hb _ => ?_
    simp only [hb, hn, hne, hL, if_true, if_false]
  · rintro r W oW N W' oW' ⟨oe, hj, hl⟩ hs hN
    obtain ⟨oe', h1, h2⟩ := hl.step hs hN
    exact ⟨oe', hJ _ _ _ _ _ hj h1, h2⟩
  · rintro W oW N W' oW' ⟨oe, hj, hl⟩ hs hN
    obtain ⟨oe', h1, h2⟩ := hl.step hs hN
    exact ⟨oe', hX _ _ _ _ hj h1, h2⟩
  · rintro r W oW ρ p ⟨oe, hj, hl⟩ hp h1 h2
    exact ⟨oe, hj, hl.relab hp h1 h2⟩
  · rintro x rest W oW vs ⟨oe, hj, hl⟩ hE
    have hE' : EvC Ev Le x vs W oe := by
      cases Le with
      | none => exact hE
      | some L =>
        refine Ft.mono (L := Lm.length + 1) hE fun b hb hlt => ?_
        rcases hl b hlt with h3 | ⟨i', h3, h4⟩ | ⟨h3, h4⟩ | ⟨h3, h4⟩ | ⟨h3, h4⟩
        · omega
        · have := (List.getElem?_eq_some_iff.1 h4).1
          omega
        · rcases h4 with h4 | ⟨h4, _⟩
          · exact (Option.some.inj h4).symm
          · cases h4
        · omega
        · omega
    obtain ⟨fn, tmps, assign, body, hrun, hr⟩ := hY x rest W oe vs hj hE'
    refine ⟨fn, tmps, assign, body, hrun, RoundIn.mono hr ?_⟩
    rintro en W' ⟨b, rfl, oe', hs, ht, hf⟩
    have nk : ∀ b, b < W.heap.size → oW b ∉ ([0] : List Nat) → oe b ∉ My := fun b hb hn hm => by
      rcases hl b hb with h3 | ⟨i', h3, h4⟩ | ⟨h3, h4⟩ | ⟨h3, h4⟩ | ⟨h3, h4⟩
      · exact hn (by simp [h3])
      · exact hMy _ hm (List.mem_cons_of_mem _ (List.mem_append_left _ (List.mem_of_getElem? h4)))
      · rcases h4 with h4 | ⟨_, h4⟩
        · exact hMy _ hm (List.mem_cons_of_mem _ (List.mem_append_right _ (hLe _ h4)))
        · exact hMy _ hm (by simp [h4])
      · rcases h4 with h4 | h4
        · exact hMy _ hm (List.mem_cons_of_mem _ (List.mem_append_right _ h4))
        · exact hMy _ hm (by simp [h4])
      · exact hMy _ hm (by simp [h4])
    have hst : St [0] W oW W' (fun b => if b < W.heap.size then oW b else 0) := ⟨hs.os, hs.tape, hs.output, hs.size, fun b hb _ => by simp [hb], fun b hb hn => hs.kept b hb (nk b hb hn)⟩
    have hlk : Lk Lm Lr Le Li W' (fun b => if b < W.heap.size then oW b else 0) oe' := fun b hb => by
      by_cases hlt : b < W.heap.size
      · simp only [hlt, if_true]
        by_cases h0 : oW b = 0
        · exact .inl h0
        · rw [hs.lab b hlt (nk b hlt (by simpa using h0))]
          exact hl b hlt
      · exact .inl (by simp [hlt])
    exact ⟨b, rfl, _, hst, fun hb => ⟨oe', ht hb, hlk⟩, fun hb => ⟨oe', hf hb, hlk⟩⟩
  · rintro W oW ⟨oe, hj, _⟩; exact ⟨oe, .inl hj⟩
  · rintro W oW ⟨oe, hj, _⟩; exact ⟨oe, .inr hj⟩
  · by_cases hm : o1 b ∈ Lm
    · refine .inr (.inl ⟨Lm.idxOf (o1 b), by simp only [hm, if_true], ?_⟩)
      rw [List.getElem?_eq_getElem (List.idxOf_lt_length_iff.2 hm), List.getElem_idxOf]
    · by_cases he : Le = some (o1 b)
      · exact .inr (.inr (.inl ⟨by simp only [hm, he, if_true, if_false], .inl he⟩))
      · by_cases hr : o1 b ∈ Lr
        · exact .inr (.inr (.inr (.inl ⟨by simp only [hm, he, hr, if_true, if_false], .inl hr⟩)))
        · exact .inl (by simp only [hm, he, hr, if_false])
theorem consS {x : α} {o : Option (List α)} {r : List α} (h : o.map (List.cons x) = some r) : ∃ r', r = x :: r' ∧ o = some r' := by
  cases o with
  | none => cases h
  | some r' => exact ⟨r', (Option.some.inj h).symm, rfl⟩
end
end Go.Proofs.XC

set_option linter.unusedSimpArgs false
set_option linter.unusedVariables false
namespace Go.Proofs.XC
open Go

theorem St.startM2 (w : World) (o : Nat → Nat) {Ls : List Nat} {m : Nat} (hd : Ls.Nodup) (hm : Ls.length = m) : ∃ oi : Nat → Nat, (∀ M, St M w oi w oi) ∧ (∀ (P : World → Prop) (L : Nat), L ∉ Ls → Ft P w o L → Ft P w oi 0) ∧
    (∀ {P : World → Prop} {L : Nat} (i j : Nat), Ft P w o L → Ls[i]? = some L → i + 1 = j → Ft P w oi j) ∧ (∀ b, oi b ≤ m) ∧ (∀ b, oi b = 0 ∨ o b ∈ Ls) ∧ (∀ b i, oi b = i + 1 → Ls[i]? = some (o b)) := by
  subst hm
  obtain ⟨oi, h1, h2, h3, h4, h5, h6⟩ := St.startM w o Ls
  refine ⟨oi, h1, h2, fun {P L} i j hf hi hj => ?_, h4, h5, h6⟩
  subst hj
  have he : Ls[i]'(List.getElem?_eq_some_iff.1 hi).1 = L := (List.getElem?_eq_some_iff.1 hi).2
  refine h3 P i L ?_ (List.mem_of_getElem? hi) hf
  rw [← he]; exact hd.idxOf_getElem i _
/-! ### More operations -/
section
variable {ρ : Option Nat} {ds : List Deferred} {P : Program} {T : Tab} {n : Nat} {a : Act} {e : Env} {w : World} {o : Nat → Nat} {L : Nat} {Q : Exit → Act → World → Prop} {K : Act → World → Prop} {d : Option Tmp} {ty : TypeId} {pos : String} {af : Array Edge} {g : Option (Nat × Bool)}
end
end Go.Proofs.XC

set_option linter.unusedSimpArgs false
set_option linter.unusedVariables false
namespace Go.Proofs.XC
open Go

/-! ### Words for the plain laws -/
theorem w64 {x : Int} (h1 : -9223372036854775808 ≤ x) (h2 : x ≤ 9223372036854775807) : IntKind.wrap .i64 x = x := by
  simp only [IntKind.wrap, IntKind.bits, IntKind.signed]
  simp only [Bool.true_and, decide_eq_true_eq, ge_iff_le, show (2:Int)^64 = 18446744073709551616 from rfl, show (2:Int)^(64-1) = 9223372036854775808 from rfl, show (2:Int)^32 = 4294967296 from rfl, show (2:Int)^(32-1) = 2147483648 from rfl]
  split <;> omega
theorem w32 {x : Int} (h1 : -2147483648 ≤ x) (h2 : x ≤ 2147483647) : IntKind.wrap .i32 x = x := by
  simp only [IntKind.wrap, IntKind.bits, IntKind.signed]
  simp only [Bool.true_and, decide_eq_true_eq, ge_iff_le, show (2:Int)^64 = 18446744073709551616 from rfl, show (2:Int)^(64-1) = 9223372036854775808 from rfl, show (2:Int)^32 = 4294967296 from rfl, show (2:Int)^(32-1) = 2147483648 from rfl]
  split <;> omega
theorem wu32 {x : Int} (h1 : 0 ≤ x) (h2 : x ≤ 4294967295) : IntKind.wrap .u32 x = x := by
  have : IntKind.wrap .u32 x = x % 4294967296 := by simp [IntKind.wrap, IntKind.bits, IntKind.signed]
  rw [this]; omega
theorem wu8 {x : Int} (h1 : 0 ≤ x) (h2 : x ≤ 255) : IntKind.wrap .u8 x = x := by
  have : IntKind.wrap .u8 x = x % 256 := by simp [IntKind.wrap, IntKind.bits, IntKind.signed]
  rw [this]; omega
theorem wfu32 {x : Int} (h : (Lit.int .u32 x).wf = true) : 0 ≤ x ∧ x ≤ 4294967295 := by
  simpa [Lit.wf, IntKind.min, IntKind.max, IntKind.bits, IntKind.signed] using h
theorem wfu8 {x : Int} (h : (Lit.int .u8 x).wf = true) : 0 ≤ x ∧ x ≤ 255 := by
  simpa [Lit.wf, IntKind.min, IntKind.max, IntKind.bits, IntKind.signed] using h
theorem wfu64 {x : Int} (h : (Lit.int .u64 x).wf = true) : 0 ≤ x ∧ x ≤ 18446744073709551615 := by
  simpa [Lit.wf, IntKind.min, IntKind.max, IntKind.bits, IntKind.signed] using h
theorem cD {α : Type} {p : Prop} [Decidable p] (a b : α) : (bif decide p then a else b) = if p then a else b := by by_cases h : p <;> simp [h]
theorem cE {α β : Type} [BEq β] [LawfulBEq β] [DecidableEq β] (x y : β) (a b : α) : (bif x == y then a else b) = if x = y then a else b := by
  by_cases h : x = y
  · subst h; simp
  · rw [if_neg h, show (x == y) = false from by simpa using h]; rfl
theorem cN {α β : Type} [BEq β] [LawfulBEq β] [DecidableEq β] (x y : β) (a b : α) : (bif x != y then a else b) = if x = y then b else a := by
  by_cases h : x = y
  · subst h; simp
  · rw [if_neg h, show (x != y) = true from by simpa using h]; rfl
theorem bS {α β : Type} (x : α) (f : α → Option β) : (some x).bind f = f x := rfl
theorem rdD_nat {α : Type} (d : α) (xs : List α) (n : Nat) : rdD d xs (n : Int) = xs.getD n d := rfl
theorem rdD_get {α : Type} (d : α) (xs : List α) {i : Nat} (h : i < xs.length) : rdD d xs (i : Int) = xs[i] := by simp [rdD, List.getD_eq_getElem?_getD, h]
theorem rdD_at {α : Type} (d : α) (xs : List α) {z : Int} {i : Nat} (hz : z = i) (h : i < xs.length) : rdD d xs z = xs[i] := by subst hz; exact rdD_get d xs h
end Go.Proofs.XC

set_option linter.unusedSimpArgs false
set_option linter.unusedVariables false
namespace Go.Proofs.XC
open Go
end Go.Proofs.XC

set_option linter.unusedSimpArgs false
set_option linter.unusedVariables false
namespace Go.Proofs.XC
open Go

/-! ### Texts and their bytes, in words -/
def B256 (l : List Int) : Prop := ∀ c ∈ l, 0 ≤ c ∧ c < 256
theorem B256.append {a b : List Int} (ha : B256 a) (hb : B256 b) : B256 (a ++ b) := fun c hc => (List.mem_append.1 hc).elim (ha c) (hb c)
theorem B256.left {a b : List Int} (h : B256 (a ++ b)) : B256 a := fun c hc => h c (List.mem_append_left _ hc)
theorem nums_get (s : ByteArray) (i : Nat) (h : i < s.size) : (numsOf s)[i]'(by rw [numsOf_len]; exact h) = bt s i := by
  simp only [numsOf, bt, List.getElem_map, Int.toNat_natCast, h, dif_pos]
  rfl
theorem nums_app (a b : ByteArray) : numsOf (a ++ b) = numsOf a ++ numsOf b := by
  simp only [numsOf, ByteArray.data_append, Array.toList_append, List.map_append]
theorem str_len (l : List Int) : (strOfNums l).size = l.length := strOfNums_size l
/-! ### Whole numbers -/
theorem fdiv_nat (a k n m : Nat) (h : k < m) (hn : 2 ^ k = n) : Int.fdiv (a : Int) (2 ^ min (Int.toNat (k : Int)) m) = ((a / n : Nat) : Int) := by
  subst hn
  have : min (Int.toNat (k : Int)) m = k := by simp; omega
  rw [this, Int.fdiv_eq_ediv_of_nonneg _ (by exact_mod_cast Nat.zero_le _)]
  simp
end Go.Proofs.XC

set_option linter.unusedSimpArgs false
set_option linter.unusedVariables false
namespace Go.Proofs.XC
open Go

/-! ### Arguments that are structs with rows -/
def TrodC {H : Type} (enc : TypeId × Value → H) (P : Program) (w : World) (spare : Nat → Bool) (held : Bool) (t : TypeId) (cs : List Value) : Prop := ∃ (fuel : Nat) (x : DataW H × List MemPlace), DataW.trod enc P w 0 spare held fuel t cs = some x
inductive RK where
  | c (k : CK)
  | r (t : TypeId)
def AreR {H : Type} (enc : TypeId × Value → H) (P : Program) (w : World) (spare : Nat → Bool) (held : Bool) : List RK → List Value → Prop
  | [], [] => True
  | .c k :: ks, v :: vs => k.is v ∧ AreR enc P w spare held ks vs
  | .r t :: ks, v :: vs => TrodC enc P w spare held t [v] ∧ AreR enc P w spare held ks vs
  | _, _ => False
def rksF (T : Tab) (rec : Nat → Option (List RK)) : Nat → List Field → Option (List RK)
  | _, [] => some []
  | off, f :: fs => bif Nat.beq f.offset off then match rec f.type, find T.inf f.type with
      | some ks, some (s, _, _) => bif Nat.beq s ks.length then match rksF T rec (off + s) fs with
          | some r => some (ks ++ r)
          | none => none
        else none
      | _, _ => none
    else none
def rksP (T : Tab) : Nat → Nat → Option (List RK)
  | 0, _ => none
  | d + 1, t => match find T.und t with
    | some .bool => some [.c .b]
    | some (.int k) => some [.c (.i k)]
    | some .string => some [.c .s]
    | some (.slice _) => some [.r t]
    | some (.struct fs) => match rksF T (rksP T d) 0 fs.toList, find T.inf t with
      | some ks, some (s, _, _) => bif Nat.beq s ks.length then some ks else none
      | _, _ => none
    | _ => none
section
variable {P : Program} {T : Tab} {w : World} {H : Type} {enc : TypeId × Value → H} {spare : Nat → Bool} {held : Bool}
theorem AreR.append : ∀ {ks : List RK} {vs : List Value} {ks2 : List RK} {vs2 : List Value}, AreR enc P w spare held ks vs → AreR enc P w spare held ks2 vs2 → AreR enc P w spare held (ks ++ ks2) (vs ++ vs2)
  | [], [], _, _, _, h => h
  | .c _ :: _, _ :: _, _, _, h, h2 => ⟨h.1, AreR.append h.2 h2⟩
  | .r _ :: _, _ :: _, _, _, h, h2 => ⟨h.1, AreR.append h.2 h2⟩
  | [], _ :: _, _, _, h, _ => h.elim
  | .c _ :: _, [], _, _, h, _ => h.elim
  | .r _ :: _, [], _, _, h, _ => h.elim
theorem AreR.nil {vs : List Value} (h : AreR enc P w spare held [] vs) : vs = [] := by
  cases vs with
  | nil => rfl
  | cons v us => exact h.elim
end
end Go.Proofs.XC

set_option linter.unusedSimpArgs false
set_option linter.unusedVariables false
namespace Go.Proofs.XC
open Go

/-! ### A mask, over any number -/
theorem and_le (x : Int) (m : Nat) (hm : m < 4611686018427387904) : ∃ n : Nat, n ≤ m ∧ bits .and .i64 x (m : Int) = (n : Int) := by
  simp only [bits, BitVec.ofInt_natCast, BitVec.toNat_and, BitVec.toNat_ofNat]
  have h1 : m % 2 ^ IntKind.bits .i64 = m := Nat.mod_eq_of_lt (Nat.lt_of_lt_of_le hm (by decide))
  rw [h1]
  have h2 : (BitVec.ofInt (IntKind.bits .i64) x).toNat &&& m ≤ m := Nat.and_le_right
  exact ⟨_, h2, w64 (by omega) (by omega)⟩
end Go.Proofs.XC
namespace Go.Proofs.XC
theorem ba_eq (a b : ByteArray) (h : (a == b) = true) : a = b := by
  obtain ⟨a⟩ := a
  obtain ⟨b⟩ := b
  have h2 : (a == b) = true := h
  rw [eq_of_beq h2]
theorem ba_refl (a : ByteArray) : (a == a) = true := by
  obtain ⟨a⟩ := a
  show (a == a) = true
  exact beq_self_eq_true a
instance : ReflBEq ByteArray := ⟨ba_refl _⟩
instance : LawfulBEq ByteArray := ⟨fun h => ba_eq _ _ h⟩
end Go.Proofs.XC

set_option linter.unusedSimpArgs false
set_option linter.unusedVariables false
namespace Go.Proofs.XC
open Go

section
variable {P : Program} {T : Tab} {w : World} {e : Env} {d : Option Tmp} {ty : TypeId} {pos : String} {af : Array Edge} {g : Option (Nat × Bool)}
/-- All of an array, by its address, as a row. -/
theorem ask_whole (ht : TabOK P T) {t n el s b : Nat} {z : Value} {x : Operand} {ad : Addr} (hu : find T.und t = some (.array n el)) (hi : find T.inf el = some (s, b, z)) (hx : evo e x = some (.pointer (some ad))) :
    AskIs P e (Oper.mk d (.slice t x none none none) ty pos af g) (.slice (some ad) n n) w := by
  intro ρ hρ
  have h1 := hρ _ _ hx
  have hr := run_underlying' (w := w) (ht.u hu)
  have hs := run_sizeOf' (P := P) (w := w) ht hi
  have e2 : (if n = 0 then ad else ad.add 0) = ad := by
    split
    · rfl
    · simp [Addr.add]
  simp [execOp, h1, Instr.sliceAt, hr, Instr.sliceBounds, Instr.sureAddr, hs, e2]
end
end Go.Proofs.XC

set_option linter.unusedSimpArgs false
set_option linter.unusedVariables false
namespace Go.Proofs.XC
open Go

/-! ### A row against nil -/
section
variable {P : Program} {T : Tab} {w : World} {e : Env} {d : Option Tmp} {ty : TypeId} {pos : String} {af : Array Edge} {g : Option (Nat × Bool)}
theorem RdC.none {α : Type} {E : Enc α} {xs : List α} (h : RdC E none xs w) : xs = [] := by
  cases xs with
  | nil => rfl
  | cons x xs =>
    obtain ⟨ad, ha, _⟩ := h (by simp)
    cases ha
theorem none_or {β : Type} (A : Option β) : A = none ∨ ∃ ad, A = some ad := by cases A <;> simp
end
end Go.Proofs.XC

set_option linter.unusedSimpArgs false
set_option linter.unusedVariables false
namespace Go.Proofs.XC
open Go

/-! ### Labels of arguments that aren't turned, but told apart -/
section
variable {w W W2 : World} {o oi of o1 o2 : Nat → Nat} {m : Nat} {MM N Ls Lm Sh : List Nat}
theorem St.locQ (h : St MM w oi W o1) (k : St N W o1 W2 o2) (hb : ∀ b, oi b ≤ m) (hn : N.all (fun l => Nat.blt m l || MM.any (Nat.beq l)) = true) : St MM w oi W2 o2 :=
  h.then k fun b hlt hx => by
    have h1 := List.all_eq_true.1 hn _ hx
    rcases Bool.or_eq_true _ _ ▸ h1 with h2 | h2
    · have h3 := hb b
      have h4 : m < oi b := by simpa using h2
      omega
    · obtain ⟨l, hl, he⟩ := List.any_eq_true.1 h2
      have := Nat.eq_of_beq_eq_true he
      rw [this]; exact hl
theorem St.closeQ (h : St MM w oi W of) (ha : ∀ b i, oi b = i + 1 → (Lm ++ Sh)[i]? = some (o b)) (hM : MM.all (fun l => Nat.blt 0 l && Nat.ble l Lm.length) = true) (ρ : Nat → Nat) : St Lm w o W (cl w oi o MM ρ of) := by
  have key : ∀ b, o b ∉ Lm → oi b ∉ MM := fun b hn hx => hn (by
    have h1 := List.all_eq_true.1 hM _ hx
    simp only [Bool.and_eq_true] at h1
    have h2 : 0 < oi b := by simpa using h1.1
    have h3 : oi b ≤ Lm.length := Nat.le_of_ble_eq_true h1.2
    have h4 := ha b (oi b - 1) (by omega)
    rw [List.getElem?_append_left (by omega)] at h4
    exact List.mem_of_getElem? h4)
  exact ⟨h.os, h.tape, h.output, h.size, fun b hb hn => cl_old hb (key b hn), fun b hb hn => h.kept b hb (key b hn)⟩
end
end Go.Proofs.XC

set_option linter.unusedSimpArgs false
set_option linter.unusedVariables false
namespace Go.Proofs.XC
open Go

/-! ### A row that is made shorter, in its place -/
section
variable {ρ : Option Nat} {ds : List Deferred} {P : Program} {T : Tab} {n : Nat} {a : Act} {e : Env} {w w' : World} {o o' : Nat → Nat} {L : Nat} {Q : Exit → Act → World → Prop} {K : Act → World → Prop}
  {d : Option Tmp} {ty : TypeId} {pos : String} {af : Array Edge} {g : Option (Nat × Bool)} {α : Type} {E : Enc α}
/-- The first ones of an own row, where they are. -/
theorem ask_takeE (ht : TabOK P T) {t el bb : Nat} {z : Value} (hu : find T.und t = some (.slice el)) (hi : find T.inf el = some (E.sz, bb, z)) {A : Option Addr} {c : Nat} {xs : List α} (f : Ft (Own E el (.slice A xs.length c) xs) w o L) (hc : xs.length ≤ c) {k : IntKind} (m : Int)
    (h0 : 0 ≤ m) (h2 : m ≤ (xs.length : Int)) :
    (∀ {e : Env} {x oh : Operand} {d ty pos af g}, evo e x = some (.slice A xs.length c) → evo e oh = some (.int k m) → ∀ W, AskIs P e (Oper.mk d (.slice t x none (some oh) none) ty pos af g) (.slice A (xs.take m.toNat).length c) W) ∧
      Ft (Own E el (.slice A (xs.take m.toNat).length c) (xs.take m.toNat)) w o L ∧ (xs.take m.toNat).length ≤ c := by
  have hm : m.toNat ≤ xs.length := by omega
  have hl : (xs.take m.toNat).length = m.toNat := by simp [hm]
  refine ⟨fun {e x oh d ty pos af g} hx hoh W ρ hρ => ?_, f.imp fun W hW => by rw [hl]; exact hW.take hm, by rw [hl]; omega⟩
  have hr := run_cut (P := P) (w := W) ht hu hi (A := A) (len := xs.length) (cap := c) (lo := none) (hi' := some (.int k m)) rfl ⟨h0, by omega, trivial⟩
  have e3 : (if c = 0 then A else A.map (·.add (0 * E.sz))) = A := by
    split
    · rfl
    · cases A <;> simp [Addr.add]
  rw [e3] at hr
  simp [execOp, hρ _ _ hx, hρ _ _ hoh, hr, hl]
theorem Own.cap {t : TypeId} {A : Option Addr} {k c : Nat} {xs : List α} (h : Own E t (.slice A k c) xs w) : k = xs.length ∧ k ≤ c := by
  rcases h.2 with ⟨hv, h0⟩ | ⟨g, cap, cur, hv, _, _, h1, h2, _⟩
  · injection hv with hA hk hc; subst hk; subst hc; omega
  · injection hv with hA hk hc; subst hk; subst hc; omega
end
end Go.Proofs.XC

set_option linter.unusedSimpArgs false
set_option linter.unusedVariables false
namespace Go.Proofs.XC
open Go

section
variable {P : Program} {a : Act} {w : World} {Q : Exit → Act → World → Prop} {c : Code}
end
end Go.Proofs.XC

set_option linter.unusedSimpArgs false
set_option linter.unusedVariables false
namespace Go.Proofs.XC
open Go

/-! ### Rows whose elements hold rows: those stand on blocks of one label, that nothing turns -/
structure ND (α : Type) where
  R : Type
  E : Enc R
  val : R → α
  inn : R → World → Prop
def Inn {α : Type} (D : ND α) (g : List D.R) (w : World) : Prop := ∀ r ∈ g, D.inn r w
/-- The row A of the elements xs, that one may append to; its elements' rows are read. -/
def NOwn {α : Type} (D : ND α) (et : TypeId) (A : Option Addr) (c : Nat) (xs : List α) (w : World) (o : Nat → Nat) (L F : Nat) : Prop :=
  ∃ g : List D.R, xs = g.map D.val ∧ Ft (Own D.E et (.slice A xs.length c) g) w o L ∧ Ft (Inn D g) w o F
def NRd {α : Type} (D : ND α) (A : Option Addr) (xs : List α) (w : World) (o : Nat → Nat) (L F : Nat) : Prop :=
  ∃ g : List D.R, xs = g.map D.val ∧ Ft (RdC D.E A g) w o L ∧ Ft (Inn D g) w o F
section
variable {ρ' : Option Nat} {ds : List Deferred} {P : Program} {T : Tab} {n : Nat} {a : Act} {e : Env} {w w' W : World} {o o' of : Nat → Nat} {L L' F F' : Nat} {M : List Nat} {Q : Exit → Act → World → Prop} {K : Act → World → Prop}
  {d : Option Tmp} {ty : TypeId} {pos : String} {af : Array Edge} {gd : Option (Nat × Bool)} {α : Type} {D : ND α} {et : TypeId} {A : Option Addr} {c : Nat} {xs ys : List α}
theorem NOwn.conv (h : NOwn D et A c xs w o L F) (h1 : ∀ P : World → Prop, Ft P w o L → Ft P w' o' L') (h2 : ∀ P : World → Prop, Ft P w o F → Ft P w' o' F') : NOwn D et A c xs w' o' L' F' := by
  obtain ⟨g, e1, e2, e3⟩ := h
  exact ⟨g, e1, h1 _ e2, h2 _ e3⟩
theorem NRd.conv (h : NRd D A xs w o L F) (h1 : ∀ P : World → Prop, Ft P w o L → Ft P w' o' L') (h2 : ∀ P : World → Prop, Ft P w o F → Ft P w' o' F') : NRd D A xs w' o' L' F' := by
  obtain ⟨g, e1, e2, e3⟩ := h
  exact ⟨g, e1, h1 _ e2, h2 _ e3⟩
theorem NOwn.st (h : NOwn D et A c xs w o L F) (s : St M w o w' o') (hL : L ∉ M ∧ F ∉ M) : NOwn D et A c xs w' o' L F := h.conv (fun _ f => f.st s hL.1) (fun _ f => f.st s hL.2)
theorem NRd.st (h : NRd D A xs w o L F) (s : St M w o w' o') (hL : L ∉ M ∧ F ∉ M) : NRd D A xs w' o' L F := h.conv (fun _ f => f.st s hL.1) (fun _ f => f.st s hL.2)
theorem NOwn.relab (h : NOwn D et A c xs w o L F) (r : Nat → Nat) (hr : (r L, r F) = (L', F')) : NOwn D et A c xs w (fun b => r (o b)) L' F' :=
  h.conv (fun _ f => f.relab r (Prod.mk.inj hr).1) (fun _ f => f.relab r (Prod.mk.inj hr).2)
theorem NRd.relab (h : NRd D A xs w o L F) (r : Nat → Nat) (hr : (r L, r F) = (L', F')) : NRd D A xs w (fun b => r (o b)) L' F' :=
  h.conv (fun _ f => f.relab r (Prod.mk.inj hr).1) (fun _ f => f.relab r (Prod.mk.inj hr).2)
theorem map_len {R : Type} {f : R → α} {g : List R} (h : xs = g.map f) : xs.length = g.length := by rw [h, List.length_map]
theorem NOwn.rd (h : NOwn D et A c xs w o L F) : NRd D A xs w o L F := by
  obtain ⟨g, e1, e2, e3⟩ := h
  exact ⟨g, e1, e2.imp fun _ h => Own.rd h, e3⟩
theorem NOwn.nil (D : ND α) (et : TypeId) (w : World) (o : Nat → Nat) (L F : Nat) : NOwn D et none 0 ([] : List α) w o L F :=
  ⟨[], rfl, Ft.of_all (fun _ => Own.nil _ _ _) _ _ _, Ft.of_all (fun _ r hr => absurd hr (by simp)) _ _ _⟩
theorem NRd.nil (D : ND α) (A : Option Addr) (w : World) (o : Nat → Nat) (L F : Nat) : NRd D A ([] : List α) w o L F :=
  ⟨[], rfl, Ft.of_all (fun _ h => absurd h (by simp)) _ _ _, Ft.of_all (fun _ r hr => absurd hr (by simp)) _ _ _⟩
theorem NRd.addr (h : NRd D A xs w o L F) {i : Int} (hi : 0 ≤ i ∧ i < (xs.length : Int)) : ∃ ad, A = some ad := by
  obtain ⟨g, e1, e2, e3⟩ := h
  exact RdC.addr e2.now (i := i) (by rw [← map_len e1]; exact hi)
theorem NRd.nul (h : NRd D none xs w o L F) : xs = [] := by
  obtain ⟨g, e1, e2, e3⟩ := h
  rw [e1, RdC.none e2.now]; rfl
theorem NOwn.cap (h : NOwn D et A c xs w o L F) : xs.length ≤ c := by
  obtain ⟨g, e1, e2, e3⟩ := h
  exact (Own.cap e2.now).2
/-! ### Elements that are rows -/
structure NR (β : Type) where
  A : Option Addr
  c : Nat
  x : List β
def dRows {β : Type} (E : Enc β) : ND (List β) := ⟨NR β, ⟨1, fun r => [.slice r.A r.x.length r.c], fun _ => rfl, fun _ => rfl⟩, fun r => r.x, fun r w => RdC E r.A r.x w ∧ r.x.length ≤ r.c⟩
theorem NRd.row {β : Type} {E : Enc β} {xs : List (List β)} {ad : Addr} (h : NRd (dRows E) (some ad) xs w o L F) (ht : TabOK P T) {t : TypeId} (ha : aggT T t = some false) {i : Int} (hi : 0 ≤ i ∧ i < (xs.length : Int)) :
    ∃ A c, Ft (fun W => LoadIs P t (ad.add (i.toNat * 1)) (.slice A (rdD [] xs i).length c) W) w o L ∧ Ft (RdC E A (rdD [] xs i)) w o F ∧ (rdD [] xs i).length ≤ c := by
  obtain ⟨g, e1, e2, e3⟩ := h
  have hl := map_len e1
  have hig : i.toNat < g.length := by omega
  have hv : rdD [] xs i = (g[i.toNat]).x := by
    rw [e1, rdD_at [] _ (i := i.toNat) (by omega) (by rw [List.length_map]; exact hig), List.getElem_map]; rfl
  refine ⟨(g[i.toNat]).A, (g[i.toNat]).c, e2.imp fun W hW => ?_, e3.imp fun W hW => ?_, ?_⟩
  · have hd : rdD (⟨none, 0, []⟩ : NR β) g i = g[i.toNat] := rdD_at _ _ (by omega) hig
    have hi2 : 0 ≤ i ∧ i < ((List.length (α := (dRows E).R) g : Nat) : Int) := by rw [← hl]; exact hi
    have := RdC.at (d := (⟨none, 0, []⟩ : NR β)) hW (i := i) hi2 (j := 0) (v := .slice (g[i.toNat]).A (g[i.toNat]).x.length (g[i.toNat]).c) (by rw [hd]; rfl)
    rw [hv]
    refine load1 ht ha ?_
    rw [← this]
    congr 1
  · rw [hv]; exact (hW _ (List.getElem_mem hig)).1
  · rw [hv]; exact (e3.now _ (List.getElem_mem hig)).2
theorem Inn.nilF {β : Type} (E : Enc β) (w : World) (o : Nat → Nat) (F : Nat) : Ft (Inn (dRows E) []) w o F := Ft.of_all (fun _ r hr => absurd hr (by simp)) _ _ _
theorem Inn.consF {β : Type} {E : Enc β} {A : Option Addr} {c : Nat} {x : List β} {g : List (NR β)} (f : Ft (RdC E A x) w o F) (hc : x.length ≤ c) (h : Ft (Inn (dRows E) g) w o F) : Ft (Inn (dRows E) (⟨A, c, x⟩ :: g)) w o F :=
  (f.and h).imp fun W hW r hr => by
    rcases List.mem_cons.1 hr with rfl | hr
    · exact ⟨hW.1, hc⟩
    · exact hW.2 r hr
/-- A literal of rows. -/
theorem NOwn.lit {β : Type} {E : Enc β} {b el : Nat} {cs : List Value} (hb : Ft (Bx b el cs) w o L) (g : List (NR β)) (hc : cs = g.flatMap (dRows E).E.f) (hi : Ft (Inn (dRows E) g) w o F) {xs : List (List β)} (hx : xs = g.map fun r => r.x) (hm : g.length ≤ 1000000) :
    NOwn (dRows E) el (some ⟨b, 0, none⟩) g.length xs w o L F :=
  ⟨g, hx, hb.imp fun W hW => by
    have hl := map_len hx
    rw [hl]
    refine ⟨flat_len (dRows E).E g, .inr ⟨b, g.length, cs.toArray, rfl, Nat.zero_le _, hW, Nat.le_refl _, by simp only [maxLen]; omega, ?_, ?_⟩⟩
    · simp only [List.size_toArray, hc]; exact flat_len (dRows E).E g
    · show cs.take (g.length * (dRows E).E.sz) = _
      subst hc
      exact List.take_of_length_le (Nat.le_of_eq (flat_len (dRows E).E g)), hi⟩
/-! ### Operations -/
theorem op_appendN (ht : TabOK P T) (hk : KnD n ds a e) {t el bytes : Nat} {z : Value} {s x : Operand} {A2 : Option Addr} {c2 L2 : Nat}
    (hu : find T.und t = some (.slice el)) (hi : find T.inf el = some (D.E.sz, bytes, z)) (hzs : z.cells.size = D.E.sz) (hsz : Nat.blt 0 D.E.sz = true) (hby : Nat.ble bytes 100000 = true)
    (hs : evo e s = some (.slice A xs.length c)) (hx : evo e x = some (.slice A2 ys.length c2)) (hown : NOwn D el A c xs w o L F) (hrd : NRd D A2 ys w o L2 F) (hF : F ≠ L) (hlim : xs.length + ys.length ≤ 1000000000)
    (h : ∀ A c w' o', St [L] w o w' o' → NOwn D el A c (xs ++ ys) w' o' L F → (xs ++ ys).length ≤ c → K (a.put d (.slice A (xs ++ ys).length c)) w') :
    (Oper.mk d (.call { callee := .builtin .append, args := #[s, x], argTypes := #[t, t] }) ty pos af gd).wpIn (WF ρ') 0 P a w K Q := by
  obtain ⟨g1, a1, a2, a3⟩ := hown
  obtain ⟨g2, b1, b2, b3⟩ := hrd
  have l1 := map_len a1
  have l2 := map_len b1
  rw [l2] at hx
  refine op_append (o := o) (E := D.E) (xs := g1) (ys := g2) ht hk hu hi hzs hsz hby hs hx a2 b2.now (by omega) fun A c w' o' hst hft hc => ?_
  have e1 : (xs ++ ys).length = (g1 ++ g2).length := by simp only [List.length_append]; omega
  have hF' : F ∉ [L] := by simp [hF]
  rw [← e1]
  refine h A c w' o' hst ⟨g1 ++ g2, by rw [a1, b1, List.map_append], by rw [e1]; exact hft, ?_⟩ (by rw [e1]; exact hc)
  exact ((a3.st hst hF').and (b3.st hst hF')).imp fun W hW r hr => (List.mem_append.1 hr).elim (hW.1 r) (hW.2 r)
theorem ask_cutN (ht : TabOK P T) {t el bb : Nat} {z : Value} (hu : find T.und t = some (.slice el)) (hi : find T.inf el = some (D.E.sz, bb, z)) (f : NRd D A xs w o L F) (hc : xs.length ≤ c) (lo hi' : Option Value) {l h : Nat} {cs : List Prop}
    (hcut : cutP xs.length c lo hi' = some (l, h, cs)) (hp : Conj cs) (h1 : l ≤ h) (h2 : h ≤ xs.length) :
    ∃ A' c', (∀ {e : Env} {x : Operand} {ol oh : Option Operand} {d ty pos af g}, evo e x = some (.slice A xs.length c) → optV (evo e) ol = some lo → optV (evo e) oh = some hi' → ∀ W, AskIs P e (Oper.mk d (.slice t x ol oh none) ty pos af g) (.slice A' ((xs.take h).drop l).length c') W) ∧
      NRd D A' ((xs.take h).drop l) w o L F ∧ ((xs.take h).drop l).length ≤ c' := by
  obtain ⟨g, e1, e2, e3⟩ := f
  have hl := map_len e1
  have e4 : ((xs.take h).drop l).length = ((g.take h).drop l).length := by simp only [List.length_drop, List.length_take, hl]
  rw [hl] at hcut hc h2 ⊢
  obtain ⟨A', c', k1, k2, k3⟩ := ask_cut (P := P) ht hu hi e2 hc lo hi' hcut hp h1 h2
  rw [e4]
  exact ⟨A', c', k1, ⟨(g.take h).drop l, by rw [e1, List.map_drop, List.map_take], k2, e3.imp fun W hW r hr => hW r (List.mem_of_mem_take (List.mem_of_mem_drop hr))⟩, k3⟩
theorem ask_takeN (ht : TabOK P T) {t el bb : Nat} {z : Value} (hu : find T.und t = some (.slice el)) (hi : find T.inf el = some (D.E.sz, bb, z)) (f : NOwn D el A c xs w o L F) (hc : xs.length ≤ c) {k : IntKind} (m : Int)
    (h0 : 0 ≤ m) (h2 : m ≤ (xs.length : Int)) :
    ∃ A' c', (∀ {e : Env} {x oh : Operand} {d ty pos af g}, evo e x = some (.slice A xs.length c) → evo e oh = some (.int k m) → ∀ W, AskIs P e (Oper.mk d (.slice t x none (some oh) none) ty pos af g) (.slice A' (xs.take m.toNat).length c') W) ∧
      NOwn D el A' c' (xs.take m.toNat) w o L F ∧ (xs.take m.toNat).length ≤ c' := by
  obtain ⟨g, e1, e2, e3⟩ := f
  have hl := map_len e1
  have e4 : (xs.take m.toNat).length = (g.take m.toNat).length := by simp only [List.length_take, hl]
  rw [hl] at e2 hc h2 ⊢
  obtain ⟨k1, k2, k3⟩ := ask_takeE (P := P) ht hu hi e2 hc (k := k) m h0 h2
  rw [e4]
  exact ⟨A, c, k1, ⟨g.take m.toNat, by rw [e1, List.map_take], by rw [e4]; exact k2, e3.imp fun W hW r hr => hW r (List.mem_of_mem_take hr)⟩, k3⟩
/-- All blocks of one label get another. -/
theorem relab_ex (o : Nat → Nat) (r : Nat → Nat) : ∃ o' : Nat → Nat, o' = fun b => r (o b) := ⟨_, rfl⟩
end
/-! ### Labels at the end, where the first label is that of what is frozen -/
section
variable {w W W2 : World} {o oi of o1 o2 : Nat → Nat} {m : Nat} {MM N Ls Lm Sh : List Nat}
theorem St.closeF {LF : Nat} (h : St MM w oi W of) (ha : ∀ b i, oi b = i + 1 → (LF :: (Lm ++ Sh))[i]? = some (o b)) (hM : MM.all (fun l => Nat.blt 1 l && Nat.ble l (Lm.length + 1)) = true) (ρ : Nat → Nat) : St Lm w o W (cl w oi o MM ρ of) := by
  have key : ∀ b, o b ∉ Lm → oi b ∉ MM := fun b hn hx => hn (by
    have h1 := List.all_eq_true.1 hM _ hx
    simp only [Bool.and_eq_true] at h1
    have h2 : 1 < oi b := by simpa using h1.1
    have h3 : oi b ≤ Lm.length + 1 := Nat.le_of_ble_eq_true h1.2
    have h4 := ha b (oi b - 1) (by omega)
    obtain ⟨j, hj⟩ : ∃ j, oi b - 1 = j + 1 := ⟨oi b - 2, by omega⟩
    rw [hj, List.getElem?_cons_succ, List.getElem?_append_left (by omega)] at h4
    exact List.mem_of_getElem? h4)
  exact ⟨h.os, h.tape, h.output, h.size, fun b hb hn => cl_old hb (key b hn), fun b hb hn => h.kept b hb (key b hn)⟩
end
end Go.Proofs.XC

set_option linter.unusedSimpArgs false
set_option linter.unusedVariables false
namespace Go.Proofs.XC
open Go

section
variable {ρ : Option Nat} {ds : List Deferred} {P : Program} {T : Tab} {n : Nat} {a : Act} {e : Env} {w w' w2 : World} {o o' o2 os : Nat → Nat} {L R : Nat} {Q : Exit → Act → World → Prop} {K : Act → World → Prop}
  {d : Option Tmp} {ty : TypeId} {pos : String} {af : Array Edge} {g : Option (Nat × Bool)} {α : Type} {E : Enc α}
/-! ### A call under other labels, that turns nothing -/
/-- One label apart from all others. -/
def oneLab (o : Nat → Nat) (l : Nat) : Nat → Nat := fun b => if o b = l then 1 else 0
end
end Go.Proofs.XC
