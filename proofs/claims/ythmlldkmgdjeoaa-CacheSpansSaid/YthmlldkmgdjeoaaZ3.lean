/- Words of an own calculus over the model: how a call's frame, rows and boxes go through its operations. -/
import Derived.Test.YthmlldkmgdjeoaaZ2
import Derived.Scope
import Derived.Lib.AppendZeros
import Derived.MapKept
set_option linter.unusedSimpArgs false
set_option linter.unusedVariables false
namespace Go.Proofs.XC
open Go

/-! ### Arguments that are structs with rows -/
def TrodC {H : Type} (enc : TypeId × Value → H) (P : Program) (w : World) (spare : Nat → Bool) (held : Bool) (t : TypeId) (cs : List Value) : Prop := ∃ (fuel : Nat) (x : DataW H × List MemPlace), DataW.trod enc P w 0 spare held fuel t cs = some x
inductive RK where
  | c (k : CK)
  | r (t : TypeId)
def AreR {H : Type} (enc : TypeId × Value → H) (P : Program) (w : World) (spare : Nat → Bool) (held : Bool) : List RK → List Value → Prop
  | [], [] => True
  | .c k :: ks, v :: vs => k.is v ∧ AreR enc P w spare held ks vs
  | .r t :: ks, v :: vs => TrodC enc P w spare held t [v] ∧ AreR enc P w spare held ks vs
  | _, _ => False
def rksF (T : Tab) (rec : Nat → Option (List RK)) : Nat → List Field → Option (List RK)
  | _, [] => some []
  | off, f :: fs => bif Nat.beq f.offset off then match rec f.type, find T.inf f.type with
      | some ks, some (s, _, _) => bif Nat.beq s ks.length then match rksF T rec (off + s) fs with
          | some r => some (ks ++ r)
          | none => none
        else none
      | _, _ => none
    else none
def rksP (T : Tab) : Nat → Nat → Option (List RK)
  | 0, _ => none
  | d + 1, t => match find T.und t with
    | some .bool => some [.c .b]
    | some (.int k) => some [.c (.i k)]
    | some .string => some [.c .s]
    | some (.slice _) => some [.r t]
    | some (.struct fs) => match rksF T (rksP T d) 0 fs.toList, find T.inf t with
      | some ks, some (s, _, _) => bif Nat.beq s ks.length then some ks else none
      | _, _ => none
    | _ => none
section
variable {P : Program} {T : Tab} {w : World} {H : Type} {enc : TypeId × Value → H} {spare : Nat → Bool} {held : Bool}
theorem trod_slice_one {fuel t e : Nat} {cs : List Value} {x : DataW H × List MemPlace} (hu : P.underlying t = some (.slice e)) (h : DataW.trod enc P w 0 spare held fuel t cs = some x) : ∃ v, cs = [v] := by
  cases fuel with
  | zero => simp [DataW.trod] at h
  | succ fuel =>
    unfold DataW.trod at h
    rw [hu] at h
    split at h <;> simp_all
theorem trod_slice_shape {fuel t e : Nat} {v : Value} {x : DataW H × List MemPlace} (hu : P.underlying t = some (.slice e)) (h : DataW.trod enc P w 0 spare held fuel t [v] = some x) : ∃ a len cap, v = .slice a len cap := by
  cases fuel with
  | zero => simp [DataW.trod] at h
  | succ fuel =>
    unfold DataW.trod at h
    rw [hu] at h
    split at h <;> simp_all
theorem AreR.append : ∀ {ks : List RK} {vs : List Value} {ks2 : List RK} {vs2 : List Value}, AreR enc P w spare held ks vs → AreR enc P w spare held ks2 vs2 → AreR enc P w spare held (ks ++ ks2) (vs ++ vs2)
  | [], [], _, _, _, h => h
  | .c _ :: _, _ :: _, _, _, h, h2 => ⟨h.1, AreR.append h.2 h2⟩
  | .r _ :: _, _ :: _, _, _, h, h2 => ⟨h.1, AreR.append h.2 h2⟩
  | [], _ :: _, _, _, h, _ => h.elim
  | .c _ :: _, [], _, _, h, _ => h.elim
  | .r _ :: _, [], _, _, h, _ => h.elim
theorem AreR.consC {k : CK} {ks : List RK} {vs : List Value} (h : AreR enc P w spare held (.c k :: ks) vs) : ∃ v us, vs = v :: us ∧ k.is v ∧ AreR enc P w spare held ks us := by
  cases vs with
  | nil => exact h.elim
  | cons v us => exact ⟨v, us, rfl, h.1, h.2⟩
theorem AreR.consR {t : TypeId} {ks : List RK} {vs : List Value} (h : AreR enc P w spare held (.r t :: ks) vs) : ∃ v us, vs = v :: us ∧ TrodC enc P w spare held t [v] ∧ AreR enc P w spare held ks us := by
  cases vs with
  | nil => exact h.elim
  | cons v us => exact ⟨v, us, rfl, h.1, h.2⟩
theorem AreR.nil {vs : List Value} (h : AreR enc P w spare held [] vs) : vs = [] := by
  cases vs with
  | nil => rfl
  | cons v us => exact h.elim
theorem rksF_sound (ht : TabOK P T) {rec : Nat → Option (List RK)} {fuel : Nat} {cs : List Value}
    (hrec : ∀ t ks cs x, rec t = some ks → DataW.trod enc P w 0 spare held fuel t cs = some x → AreR enc P w spare held ks cs) :
    ∀ (fs : List Field) (off : Nat) (ks : List RK) (xs : List (DataW H × List MemPlace)), rksF T rec off fs = some ks →
      (fs.mapM fun f => DataW.trod enc P w 0 spare held fuel f.type ((cs.drop f.offset).take (P.cellsOf f.type))) = some xs → AreR enc P w spare held ks ((cs.drop off).take ks.length)
  | [], off, ks, xs, hk, _ => by simp only [rksF, Option.some.injEq] at hk; subst hk; simp [AreR]
  | f :: fs, off, ks, xs, hk, hm => by
    simp only [rksF] at hk
    cases hb : Nat.beq f.offset off with
    | false => rw [hb] at hk; simp at hk
    | true =>
      have := Nat.eq_of_beq_eq_true hb
      rw [hb] at hk
      simp only [cond_true] at hk
      split at hk <;> try (simp at hk; done)
      rename_i k1 s b z hr hi
      cases hb2 : Nat.beq s k1.length with
      | false => rw [hb2] at hk; simp at hk
      | true =>
        rw [hb2] at hk
        simp only [cond_true] at hk
        have hs := Nat.eq_of_beq_eq_true hb2
        split at hk <;> simp at hk
        rename_i r hr2
        obtain ⟨y, ys, hy, hys, rfl⟩ := mapM_cons_some hm
        have h1 := hrec _ _ _ _ hr hy
        have h2 := rksF_sound ht hrec fs (off + s) r ys hr2 hys
        rw [cellsOf_of ht hi, this] at h1
        subst hk
        have e : (cs.drop off).take (k1 ++ r).length = (cs.drop off).take s ++ (cs.drop (off + s)).take r.length := by
          rw [List.length_append, ← hs, List.take_add, List.drop_drop]
        rw [e]
        exact h1.append h2
theorem rksP_sound (ht : TabOK P T) : ∀ (d t : Nat) (ks : List RK) (fuel : Nat) (cs : List Value) (x : DataW H × List MemPlace), rksP T d t = some ks → DataW.trod enc P w 0 spare held fuel t cs = some x → AreR enc P w spare held ks cs
  | 0, _, _, _, _, _, h, _ => by simp [rksP] at h
  | d + 1, t, ks, 0, cs, x, hk, h => by simp [DataW.trod] at h
  | d + 1, t, ks, fuel + 1, cs, x, hk, h => by
    simp only [rksP] at hk
    split at hk
    · rename_i hu
      simp only [Option.some.injEq] at hk
      subst hk
      unfold DataW.trod at h
      rw [ht.u hu] at h
      split at h <;> simp_all
      exact ⟨⟨_, rfl⟩, trivial⟩
    · rename_i k hu
      simp only [Option.some.injEq] at hk
      subst hk
      unfold DataW.trod at h
      rw [ht.u hu] at h
      split at h <;> simp_all
      exact ⟨⟨_, rfl, h.1.2⟩, trivial⟩
    · rename_i hu
      simp only [Option.some.injEq] at hk
      subst hk
      unfold DataW.trod at h
      rw [ht.u hu] at h
      split at h <;> simp_all
      exact ⟨⟨_, rfl, h.1⟩, trivial⟩
    · rename_i e hu
      simp only [Option.some.injEq] at hk
      subst hk
      obtain ⟨v, rfl⟩ := trod_slice_one (ht.u hu) h
      exact ⟨⟨_, _, h⟩, trivial⟩
    · rename_i fs hu
      unfold DataW.trod at h
      rw [ht.u hu] at h
      simp only at h
      split at h
      · rename_i hl
        cases hm : fs.toList.mapM fun f => DataW.trod enc P w 0 spare held fuel f.type ((cs.drop f.offset).take (P.cellsOf f.type)) with
        | none => simp [hm] at h
        | some xs =>
          split at hk <;> try (simp at hk; done)
          rename_i ks2 s b z hk2 hi
          cases hb : Nat.beq s ks2.length with
          | false => rw [hb] at hk; simp at hk
          | true =>
            rw [hb] at hk
            simp only [cond_true, Option.some.injEq] at hk
            subst hk
            have hs := Nat.eq_of_beq_eq_true hb
            have h2 := rksF_sound ht (fun t ks cs x hk h => rksP_sound ht d t ks fuel cs x hk h) fs.toList 0 ks2 xs hk2 hm
            rw [cellsOf_of ht hi, hs] at hl
            rwa [List.drop_zero, ← hl, List.take_length] at h2
      · cases h
    · simp at hk
theorem open_aggR (ht : TabOK P T) {r : Reach} {b0 d t : Nat} {fs : Array Field} {ks : List RK} {v : Value} {x : DataW H} {ps : List MemPlace} (hu : find T.und t = some (.struct fs)) (hk : rksP T d t = some ks)
    (hval : Value.okWide P w r b0 t v) (h : DataW.Trod enc P w 0 spare held t v x ps) : ∃ cs : List Value, v = .agg cs.toArray ∧ AreR enc P w spare held ks cs := by
  simp only [Value.okWide, ht.u hu] at hval
  obtain ⟨cs, rfl, _⟩ := hval
  obtain ⟨fuel, hf⟩ := h
  exact ⟨cs.toList, by simp, rksP_sound ht d t ks fuel _ _ hk (by simpa [Value.cells] using hf)⟩
theorem open_rowT (ht : TabOK P T) {α : Type} {E : Enc α} {WF : α → Prop} {d t e bb : Nat} {z : Value} {ks : List CK} {v : Value} (hu : find T.und t = some (.slice e)) (hi : find T.inf e = some (E.sz, bb, z)) (hk : cksP T d e = some ks)
    (hE : ∀ cs, AreC ks cs → ∃ y, cs = E.f y ∧ WF y) (h : TrodC enc P w spare held t [v]) :
    ∃ (A : Option Addr) (c : Nat) (xs : List α), v = .slice A xs.length c ∧ RdC E A xs w ∧ xs.length ≤ c ∧ c ≤ maxLen ∧ ∀ y ∈ xs, WF y := by
  obtain ⟨fuel, x, hf⟩ := h
  obtain ⟨a, len, cap, rfl⟩ := trod_slice_shape (ht.u hu) hf
  cases fuel with
  | zero => simp [DataW.trod] at hf
  | succ fuel =>
    unfold DataW.trod at hf
    rw [ht.u hu] at hf
    simp only [Value.cells] at hf
    cases a with
    | none =>
      have : len = 0 ∧ cap = 0 := by
        cases len <;> cases cap <;> simp at hf ⊢
      obtain ⟨rfl, rfl⟩ := this
      exact ⟨none, 0, [], rfl, fun h0 => absurd h0 (by simp), by simp, by simp, by simp⟩
    | some a =>
      simp only at hf
      split at hf
      · rename_i hc
        cases hm : (List.range len).mapM fun i => (w.cells? 0 (a.add (i * P.cellsOf e)) (P.cellsOf e)).bind (DataW.trod enc P w 0 spare held fuel e) with
        | none => simp [hm] at hf
        | some ys =>
          rw [cellsOf_of ht hi] at hm
          have hyl : ys.length = len := by simpa using mapM_some_length hm
          have hget : ∀ i, i < len → ∃ y, E.f y = ((List.range E.sz).map fun j => (w.cell? ((a.add (i * E.sz)).add j)).getD undef) ∧ WF y ∧ ∀ j, j < E.sz → w.cell? ((a.add (i * E.sz)).add j) = (E.f y)[j]? := by
            intro i hi'
            have h1 := mapM_some_get hm i i (by simp [hi'])
            rw [List.getElem?_eq_getElem (by omega)] at h1
            obtain ⟨cs, hcs, htr⟩ := Option.bind_eq_some_iff.1 h1
            obtain ⟨_, hl, hcell⟩ := World.cells?_some hcs
            obtain ⟨y, hy, hw⟩ := hE cs (cksP_sound ht d e ks fuel cs _ hk htr)
            subst hy
            refine ⟨y, ?_, hw, hcell⟩
            apply List.ext_getElem?
            intro j
            by_cases hj : j < E.sz
            · rw [List.getElem?_map, List.getElem?_range hj]
              simp only [Option.map_some]
              rw [hcell j hj]
              rw [List.getElem?_eq_getElem (by rw [E.len]; exact hj)]
              rfl
            · rw [List.getElem?_eq_none (by rw [E.len]; omega), List.getElem?_eq_none (by simp; omega)]
          have hall : ∀ n, n ≤ len → ∃ xs : List α, xs.length = n ∧ (∀ y ∈ xs, WF y) ∧ ∀ (i : Nat) (y : α), xs[i]? = some y → ∀ j, j < E.sz → w.cell? ((a.add (i * E.sz)).add j) = (E.f y)[j]? := by
            intro n
            induction n with
            | zero => exact fun _ => ⟨[], rfl, by simp, by simp⟩
            | succ n ih =>
              intro hn
              obtain ⟨xs, hxl, hxw, hxc⟩ := ih (by omega)
              obtain ⟨y, _, hw, hc⟩ := hget n (by omega)
              refine ⟨xs ++ [y], by simp [hxl], fun u hu => ?_, fun i u hu => ?_⟩
              · rcases List.mem_append.1 hu with hu | hu
                · exact hxw u hu
                · simp only [List.mem_singleton] at hu; subst hu; exact hw
              · by_cases hin : i < xs.length
                · rw [List.getElem?_append_left hin] at hu; exact hxc i u hu
                · rw [List.getElem?_append_right (by omega)] at hu
                  have hin0 : i - xs.length = 0 := by
                    have := (List.getElem?_eq_some_iff.1 hu).1
                    simp at this; omega
                  rw [hin0] at hu
                  simp only [List.getElem?_cons_zero, Option.some.injEq] at hu
                  subst hu
                  have : i = n := by omega
                  subst this
                  exact hc
          obtain ⟨xs, hxl, hxw, hxc⟩ := hall len (Nat.le_refl _)
          refine ⟨some a, cap, xs, by rw [hxl], fun _ => ⟨a, rfl, fun i y hy j u hu => ?_⟩, by omega, hc.2.2, hxw⟩
          rw [hxc i y hy j (by rw [← E.len y]; exact (List.getElem?_eq_some_iff.1 hu).1), hu]
      · cases hf
end
end Go.Proofs.XC

set_option linter.unusedSimpArgs false
set_option linter.unusedVariables false
namespace Go.Proofs.XC
open Go

/-! ### A mask, over any number -/
theorem and_le (x : Int) (m : Nat) (hm : m < 4611686018427387904) : ∃ n : Nat, n ≤ m ∧ bits .and .i64 x (m : Int) = (n : Int) := by
  simp only [bits, BitVec.ofInt_natCast, BitVec.toNat_and, BitVec.toNat_ofNat]
  have h1 : m % 2 ^ IntKind.bits .i64 = m := Nat.mod_eq_of_lt (Nat.lt_of_lt_of_le hm (by decide))
  rw [h1]
  have h2 : (BitVec.ofInt (IntKind.bits .i64) x).toNat &&& m ≤ m := Nat.and_le_right
  exact ⟨_, h2, w64 (by omega) (by omega)⟩
theorem all_true {α : Type} (l : List α) (p : α → Bool) : (l.all p = true) ↔ ∀ x ∈ l, p x = true := List.all_eq_true
theorem cB {α : Type} (b : Bool) (x y : α) : (bif b then x else y) = if b = true then x else y := by cases b <;> rfl
theorem cNB {α : Type} (b : Bool) (x y : α) : (bif !b then x else y) = if b = true then y else x := by cases b <;> rfl
end Go.Proofs.XC
namespace Go.Proofs.XC
theorem ba_eq (a b : ByteArray) (h : (a == b) = true) : a = b := by
  obtain ⟨a⟩ := a
  obtain ⟨b⟩ := b
  have h2 : (a == b) = true := h
  rw [eq_of_beq h2]
theorem ba_refl (a : ByteArray) : (a == a) = true := by
  obtain ⟨a⟩ := a
  show (a == a) = true
  exact beq_self_eq_true a
instance : ReflBEq ByteArray := ⟨ba_refl _⟩
instance : LawfulBEq ByteArray := ⟨fun h => ba_eq _ _ h⟩
end Go.Proofs.XC

set_option linter.unusedSimpArgs false
set_option linter.unusedVariables false
namespace Go.Proofs.XC
open Go

section
variable {P : Program} {T : Tab} {w : World} {e : Env} {d : Option Tmp} {ty : TypeId} {pos : String} {af : Array Edge} {g : Option (Nat × Bool)}
theorem allSome_pairs {ev : Operand → Option Value} {ρ : Operand → Value} (hev : ∀ x v, ev x = some v → ρ x = v) : ∀ (l : List (Nat × Operand)) (r : List Value), allSome (l.map fun p => ev p.2) = some r → l.map (fun x => (x.1, ρ x.2)) = (l.map (·.1)).zip r := by
  intro l
  induction l with
  | nil => intro r hr; simp
  | cons p l ih =>
    intro r hr
    simp only [List.map_cons] at hr
    cases hp2 : ev p.2 with
    | none => simp [hp2, allSome] at hr
    | some u =>
      simp only [hp2, allSome] at hr
      cases hl : allSome (l.map fun p => ev p.2) with
      | none => simp [hl] at hr
      | some q =>
        simp only [hl, Option.some.injEq] at hr
        subst hr
        simp [hev _ _ hp2, ih q hl]
/-- An array of parts. -/
theorem ask_buildA (ht : TabOK P T) {t n el s b s2 b2 : Nat} {z z2 : Value} {parts : Array (Nat × Operand)} {vs : List Value} {cells : Array Value} (hu : find T.und t = some (.array n el)) (hz : find T.inf t = some (s, b, z)) (hi : find T.inf el = some (s2, b2, z2))
    (hv : allSome (parts.toList.map fun p => evo e p.2) = some vs) (hf : Instr.fill (fun i => some (i * s2, s2)) z.cells ((parts.toList.map (·.1)).zip vs) = some cells) :
    AskIs P e (Oper.mk d (.build t parts) ty pos af g) (.agg cells) w := by
  intro ρ hρ
  have hr := run_underlying' (w := w) (ht.u hu)
  have hs := run_sizeOf' (P := P) (w := w) ht hi
  simp only [execOp, Instr.build, Sem.run_bind, run_zeroValue' ht hz, Result.andThen_ok, hr, hs, Array.toList_map, allSome_pairs hρ _ _ hv]
  simp [hf]
/-- All of an array, by its address, as a row. -/
theorem ask_whole (ht : TabOK P T) {t n el s b : Nat} {z : Value} {x : Operand} {ad : Addr} (hu : find T.und t = some (.array n el)) (hi : find T.inf el = some (s, b, z)) (hx : evo e x = some (.pointer (some ad))) :
    AskIs P e (Oper.mk d (.slice t x none none none) ty pos af g) (.slice (some ad) n n) w := by
  intro ρ hρ
  have h1 := hρ _ _ hx
  have hr := run_underlying' (w := w) (ht.u hu)
  have hs := run_sizeOf' (P := P) (w := w) ht hi
  have e2 : (if n = 0 then ad else ad.add 0) = ad := by
    split
    · rfl
    · simp [Addr.add]
  simp [execOp, h1, Instr.sliceAt, hr, Instr.sliceBounds, Instr.sureAddr, hs, e2]
end
end Go.Proofs.XC

set_option linter.unusedSimpArgs false
set_option linter.unusedVariables false
namespace Go.Proofs.XC
open Go

/-! ### A row against nil -/
section
variable {P : Program} {T : Tab} {w : World} {e : Env} {d : Option Tmp} {ty : TypeId} {pos : String} {af : Array Edge} {g : Option (Nat × Bool)}
theorem RdC.none {α : Type} {E : Enc α} {xs : List α} (h : RdC E none xs w) : xs = [] := by
  cases xs with
  | nil => rfl
  | cons x xs =>
    obtain ⟨ad, ha, _⟩ := h (by simp)
    cases ha
theorem none_or {β : Type} (A : Option β) : A = none ∨ ∃ ad, A = some ad := by cases A <;> simp
theorem run_equal_nilN (ht : TabOK P T) {t el : Nat} (hu : find T.und t = some (.slice el)) (l c : Nat) : (Op.equal t (.slice none l c) (.slice none 0 0)).run P w = .ok true w := by
  have hr := run_underlying' (w := w) (ht.u hu)
  exact equal_of fun n => by simp [Op.equalIn, hr]
theorem run_equal_nilS (ht : TabOK P T) {t el : Nat} (hu : find T.und t = some (.slice el)) (ad : Addr) (l c : Nat) : (Op.equal t (.slice (some ad) l c) (.slice none 0 0)).run P w = .ok false w := by
  have hr := run_underlying' (w := w) (ht.u hu)
  exact equal_of fun n => by simp [Op.equalIn, hr]
theorem ask_seqN (ht : TabOK P T) {t el : Nat} {x y : Operand} {z : TypeId} {l c : Nat} (hu : find T.und t = some (.slice el)) (hx : evo e x = some (.slice none l c)) (hy : evo e y = some (.slice none 0 0)) :
    AskIs P e (Oper.mk d (.binOp .eql t x y z) ty pos af g) (.bool true) w := by
  intro ρ hρ
  have h3 := run_eq_of (x := x) (y := y) ⟨rfl, rfl⟩ (run_equal_nilN (w := w) ht hu l c)
  simp only [execOp, hρ _ _ hx, hρ _ _ hy]
  simp only [Sem.run_bind] at h3 ⊢
  simp [h3]
theorem ask_seqS (ht : TabOK P T) {t el : Nat} {x y : Operand} {z : TypeId} {ad : Addr} {l c : Nat} (hu : find T.und t = some (.slice el)) (hx : evo e x = some (.slice (some ad) l c)) (hy : evo e y = some (.slice none 0 0)) :
    AskIs P e (Oper.mk d (.binOp .eql t x y z) ty pos af g) (.bool false) w := by
  intro ρ hρ
  have h3 := run_eq_of (x := x) (y := y) ⟨rfl, rfl⟩ (run_equal_nilS (w := w) ht hu ad l c)
  simp only [execOp, hρ _ _ hx, hρ _ _ hy]
  simp only [Sem.run_bind] at h3 ⊢
  simp [h3]
end
end Go.Proofs.XC

set_option linter.unusedSimpArgs false
set_option linter.unusedVariables false
namespace Go.Proofs.XC
open Go

/-! ### Labels of arguments that aren't turned, but told apart -/
section
variable {w W W2 : World} {o oi of o1 o2 : Nat → Nat} {m : Nat} {MM N Ls Lm Sh : List Nat}
theorem St.locQ (h : St MM w oi W o1) (k : St N W o1 W2 o2) (hb : ∀ b, oi b ≤ m) (hn : N.all (fun l => Nat.blt m l || MM.any (Nat.beq l)) = true) : St MM w oi W2 o2 :=
  h.then k fun b hlt hx => by
    have h1 := List.all_eq_true.1 hn _ hx
    rcases Bool.or_eq_true _ _ ▸ h1 with h2 | h2
    · have h3 := hb b
      have h4 : m < oi b := by simpa using h2
      omega
    · obtain ⟨l, hl, he⟩ := List.any_eq_true.1 h2
      have := Nat.eq_of_beq_eq_true he
      rw [this]; exact hl
theorem St.closeQ (h : St MM w oi W of) (ha : ∀ b i, oi b = i + 1 → (Lm ++ Sh)[i]? = some (o b)) (hM : MM.all (fun l => Nat.blt 0 l && Nat.ble l Lm.length) = true) (ρ : Nat → Nat) : St Lm w o W (cl w oi o MM ρ of) := by
  have key : ∀ b, o b ∉ Lm → oi b ∉ MM := fun b hn hx => hn (by
    have h1 := List.all_eq_true.1 hM _ hx
    simp only [Bool.and_eq_true] at h1
    have h2 : 0 < oi b := by simpa using h1.1
    have h3 : oi b ≤ Lm.length := Nat.le_of_ble_eq_true h1.2
    have h4 := ha b (oi b - 1) (by omega)
    rw [List.getElem?_append_left (by omega)] at h4
    exact List.mem_of_getElem? h4)
  exact ⟨h.os, h.tape, h.output, h.size, fun b hb hn => cl_old hb (key b hn), fun b hb hn => h.kept b hb (key b hn)⟩
end
end Go.Proofs.XC

set_option linter.unusedSimpArgs false
set_option linter.unusedVariables false
namespace Go.Proofs.XC
open Go

/-! ### A row that is made shorter, in its place -/
section
variable {ρ : Option Nat} {ds : List Deferred} {P : Program} {T : Tab} {n : Nat} {a : Act} {e : Env} {w w' : World} {o o' : Nat → Nat} {L : Nat} {Q : Exit → Act → World → Prop} {K : Act → World → Prop}
  {d : Option Tmp} {ty : TypeId} {pos : String} {af : Array Edge} {g : Option (Nat × Bool)} {α : Type} {E : Enc α}
/-- A cut with three bounds: there is one. -/
theorem ask_cut3 (ht : TabOK P T) {t el s b : Nat} {z : Value} (hu : find T.und t = some (.slice el)) (hi : find T.inf el = some (s, b, z)) (A : Option Addr) (len c : Nat) (k1 k2 k3 : IntKind) (l h m : Int)
    (h0 : 0 ≤ l) (h1 : l ≤ h) (h2 : h ≤ m) (h3 : m ≤ (c : Int)) :
    ∃ v, ∀ {e : Env} {x ol oh om : Operand} {d ty pos af g}, evo e x = some (.slice A len c) → evo e ol = some (.int k1 l) → evo e oh = some (.int k2 h) → evo e om = some (.int k3 m) → ∀ W, AskIs P e (Oper.mk d (.slice t x (some ol) (some oh) (some om)) ty pos af g) v W := by
  refine ⟨.slice (if m.toNat = l.toNat then A else A.map (·.add (l.toNat * s))) (h.toNat - l.toNat) (m.toNat - l.toNat), fun {e x ol oh om d ty pos af g} hx hl hh hm W ρ hρ => ?_⟩
  have hr := run_underlying' (w := W) (ht.u hu)
  have hs := run_sizeOf' (P := P) (w := W) ht hi
  have e1 : 0 ≤ m ∧ m ≤ (c : Int) := by omega
  have e2 : 0 ≤ h ∧ h ≤ ((m.toNat : Nat) : Int) := by omega
  have e3 : 0 ≤ l ∧ l ≤ ((h.toNat : Nat) : Int) := by omega
  have e4 : ((m.toNat : Nat) : Int) = m := by omega
  have e5 : ((h.toNat : Nat) : Int) = h := by omega
  have h4 : 0 ≤ m := by omega
  have h5 : 0 ≤ h := by omega
  have h6 : max m 0 = m := by omega
  have h7 : max h 0 = h := by omega
  simp [execOp, hρ _ _ hx, hρ _ _ hl, hρ _ _ hh, hρ _ _ hm, Instr.sliceAt, Instr.slice, hr, hs, Instr.sliceBounds, Instr.sliceBound, asIntOf, e1, e2, e3, h0, h1, h2, h3, h4, h5, h6, h7]
/-- The first ones of an own row, where they are. -/
theorem ask_takeE (ht : TabOK P T) {t el bb : Nat} {z : Value} (hu : find T.und t = some (.slice el)) (hi : find T.inf el = some (E.sz, bb, z)) {A : Option Addr} {c : Nat} {xs : List α} (f : Ft (Own E el (.slice A xs.length c) xs) w o L) (hc : xs.length ≤ c) {k : IntKind} (m : Int)
    (h0 : 0 ≤ m) (h2 : m ≤ (xs.length : Int)) :
    (∀ {e : Env} {x oh : Operand} {d ty pos af g}, evo e x = some (.slice A xs.length c) → evo e oh = some (.int k m) → ∀ W, AskIs P e (Oper.mk d (.slice t x none (some oh) none) ty pos af g) (.slice A (xs.take m.toNat).length c) W) ∧
      Ft (Own E el (.slice A (xs.take m.toNat).length c) (xs.take m.toNat)) w o L ∧ (xs.take m.toNat).length ≤ c := by
  have hm : m.toNat ≤ xs.length := by omega
  have hl : (xs.take m.toNat).length = m.toNat := by simp [hm]
  refine ⟨fun {e x oh d ty pos af g} hx hoh W ρ hρ => ?_, f.imp fun W hW => by rw [hl]; exact hW.take hm, by rw [hl]; omega⟩
  have hr := run_cut (P := P) (w := W) ht hu hi (A := A) (len := xs.length) (cap := c) (lo := none) (hi' := some (.int k m)) rfl ⟨h0, by omega, trivial⟩
  have e3 : (if c = 0 then A else A.map (·.add (0 * E.sz))) = A := by
    split
    · rfl
    · cases A <;> simp [Addr.add]
  rw [e3] at hr
  simp [execOp, hρ _ _ hx, hρ _ _ hoh, hr, hl]
theorem Own.cap {t : TypeId} {A : Option Addr} {k c : Nat} {xs : List α} (h : Own E t (.slice A k c) xs w) : k = xs.length ∧ k ≤ c := by
  rcases h.2 with ⟨hv, h0⟩ | ⟨g, cap, cur, hv, _, _, h1, h2, _⟩
  · injection hv with hA hk hc; subst hk; subst hc; omega
  · injection hv with hA hk hc; subst hk; subst hc; omega
/-- append(s, x...), where there is room. -/
theorem op_appendI (ht : TabOK P T) (hk : KnD n ds a e) {t el bytes : Nat} {z : Value} {s x : Operand} {A : Option Addr} {c : Nat} {xs ys : List α} {A2 : Option Addr} {c2 : Nat}
    (hu : find T.und t = some (.slice el)) (hi : find T.inf el = some (E.sz, bytes, z))
    (hs : evo e s = some (.slice A xs.length c)) (hx : evo e x = some (.slice A2 ys.length c2)) (hown : Ft (Own E el (.slice A xs.length c) xs) w o L) (hrd : RdC E A2 ys w) (hfit : xs.length + ys.length ≤ c)
    (h : ∀ w', St [L] w o w' o → Ft (Own E el (.slice A (xs ++ ys).length c) (xs ++ ys)) w' o L → K (a.put d (.slice A (xs ++ ys).length c)) w') :
    (Oper.mk d (.call { callee := .builtin .append, args := #[s, x], argTypes := #[t, t] }) ty pos af g).wpIn (WF ρ) 0 P a w K Q := by
  have hev1 : a.eval s = .slice A xs.length c := hk.ev hs
  have hev2 : a.eval x = .slice A2 ys.length c2 := hk.ev hx
  have hexec : ∀ (v' : Value) (w' : World), (Builtin.append_ #[t, t] ty #[.slice A xs.length c, .slice A2 ys.length c2]).run P w = .ok v' w' →
      (execOp a.eval (Oper.mk d (.call { callee := .builtin .append, args := #[s, x], argTypes := #[t, t] }) ty pos af g)).run P w = .ok (.value v') w' := by
    intro v' w' hr
    simp [execOp, resolve, invoke, builtin, hev1, hev2, hr]
  have hsl := run_underlying' (w := w) (ht.u hu)
  have hfc : (Builtin.firstCells E.sz ys.length (.slice A2 ys.length c2)).run P w = .ok (ys.flatMap E.f).toArray w := by
    cases A2 with
    | none =>
      obtain rfl := hrd.none
      simp [Builtin.firstCells]
    | some ad =>
      have := run_loadCells (P := P) (w := w) (ys.length * E.sz) 0 ad #[] (ys.flatMap E.f) (flat_len E ys) (fun j hj => by
        obtain ⟨u, hu⟩ : ∃ u, (ys.flatMap E.f)[j]? = some u := ⟨_, List.getElem?_eq_getElem (by rw [flat_len]; exact hj)⟩
        rw [hu, Nat.zero_add]; exact RdC.news hrd j u hu)
      simp [Builtin.firstCells, loadCells, this]
  rcases hown.now.2 with ⟨hv, h0⟩ | ⟨g, cap, cur, hv, hb, hg, h1, h2, h3, h4⟩
  · injection hv with hA hk0 hc0
    subst hA; subst hc0
    have hy : ys = [] := List.eq_nil_of_length_eq_zero (by omega)
    have hxs : xs = [] := List.eq_nil_of_length_eq_zero (by omega)
    subst hy; subst hxs
    refine op_of_run (hexec (.slice none 0 0) w ?_) (by simpa using h w (St.refl _ w o) (by simpa using hown))
    have : (Builtin.firstCells E.sz 0 (.slice A2 0 c2)).run P w = .ok #[] w := by simpa using hfc
    simp [Builtin.append_, hsl, run_sizeOf' ht hi, Builtin.lenOf, this]
  · injection hv with hA hk0 hc0
    subst hA; subst hc0
    have hbx : Bx g el cur.toList w := by unfold Bx; simpa using hg
    have hl : cur.toList.length = c * E.sz := by simpa using h3
    have hle : (xs.length + ys.length) * E.sz ≤ c * E.sz := Nat.mul_le_mul_right _ hfit
    rw [Nat.add_mul] at hle
    obtain ⟨w1, hr, hb1, ho1, ht1, hp1, hs1, hk1⟩ := run_storeCells (P := P) (ys.flatMap E.f) 0 (xs.length * E.sz) cur.toList w hbx (flat_one ys) (by rw [flat_len]; omega)
    have hL : o g = L := Own.lab hown g rfl
    refine op_of_run (hexec (.slice (some ⟨g, 0, none⟩) (xs ++ ys).length c) w1 ?_) (h w1 ⟨ho1, ht1, hp1, by omega, fun _ _ _ => rfl, fun b hb hm => hk1 b (fun e => hm (by rw [e, hL]; simp))⟩ (Own.ft ⟨by rw [flat_len], .inr ⟨g, c, (cur.toList.take (xs.length * E.sz) ++ ys.flatMap E.f ++ cur.toList.drop (xs.length * E.sz + (ys.flatMap E.f).length)).toArray, rfl, Nat.zero_le _, ?_, by rw [List.length_append]; exact hfit, h2, ?_, ?_⟩⟩ (fun k hk => ?_)))
    · have hle2 : xs.length + ys.length ≤ c := hfit
      simp [Builtin.append_, hsl, run_sizeOf' ht hi, Builtin.lenOf, hle2, hfc, hr, List.length_append]
    · unfold Bx at hb1
      simpa using hb1
    · simp only [List.size_toArray, List.length_append, List.length_take, List.length_drop, flat_len]
      omega
    · simp only [List.length_append, List.flatMap_append]
      rw [h4, List.take_append_of_le_length (by rw [List.length_append, flat_len, flat_len, Nat.add_mul]; omega), List.take_of_length_le (by rw [List.length_append, flat_len, flat_len, Nat.add_mul]; omega)]
    · have : g = k := by simpa [Value.ownBlock] using hk
      rw [← this]; exact hL
/-- clear(s[len(s):h]): what is behind an own row's end. -/
theorem op_clearTail (ht : TabOK P T) (hk : KnD n ds a e) {t el bytes : Nat} {z : Value} {x : Operand} {A : Option Addr} {c hh : Nat} {xs : List α}
    (hu : find T.und t = some (.slice el)) (hi : find T.inf el = some (E.sz, bytes, z)) (hzs : z.cells.size = E.sz) (hz1 : z.cells.all (·.oneCell') = true)
    (hx : evo e x = some (.slice (if c = xs.length then A else A.map (·.add (xs.length * E.sz))) (hh - xs.length) (c - xs.length))) (hown : Ft (Own E el (.slice A xs.length c) xs) w o L) (h1' : xs.length ≤ hh) (h2' : hh ≤ c)
    (h : ∀ w', St [L] w o w' o → Ft (Own E el (.slice A xs.length c) xs) w' o L → K (a.put d (.tuple #[])) w') :
    (Oper.mk d (.call { callee := .builtin .clear, args := #[x], argTypes := #[t] }) ty pos af g).wpIn (WF ρ) 0 P a w K Q := by
  have hev : a.eval x = _ := hk.ev hx
  have hsl := run_underlying' (w := w) (ht.u hu)
  have hexec : ∀ (w' : World), (Builtin.clear_ #[t] ty #[.slice (if c = xs.length then A else A.map (·.add (xs.length * E.sz))) (hh - xs.length) (c - xs.length)]).run P w = .ok (.tuple #[]) w' →
      (execOp a.eval (Oper.mk d (.call { callee := .builtin .clear, args := #[x], argTypes := #[t] }) ty pos af g)).run P w = .ok (.value (.tuple #[])) w' := by
    intro w' hr
    simp [execOp, resolve, invoke, builtin, hev, hr]
  by_cases hz : hh = xs.length
  · subst hz
    refine op_of_run (hexec w ?_) (h w (St.refl _ w o) hown)
    rw [Nat.sub_self]
    cases hA : (if c = xs.length then A else A.map (·.add (xs.length * E.sz))) <;> simp [Builtin.clear_, hsl]
  · have hlt : xs.length < c := by omega
    rcases hown.now.2 with ⟨hv, h0⟩ | ⟨g, cap, cur, hv, hb, hg, h1, h2, h3, h4⟩
    · injection hv with hA hk0 hc0
      omega
    · injection hv with hA hk0 hc0
      subst hA; subst hc0
      have hbx : Bx g el cur.toList w := by unfold Bx; simpa using hg
      have hl : cur.toList.length = c * E.sz := by simpa using h3
      have hzl : (Builtin.zeroCells z.cells (hh - xs.length)).toList.length = (hh - xs.length) * E.sz := by simp [Builtin.zeroCells, hzs]
      have hle : hh * E.sz ≤ c * E.sz := Nat.mul_le_mul_right _ h2'
      have hle2 : xs.length * E.sz + (hh - xs.length) * E.sz = hh * E.sz := by rw [← Nat.add_mul]; congr 1; omega
      have hone : ∀ v ∈ (Builtin.zeroCells z.cells (hh - xs.length)).toList, v.oneCell' = true := by
        intro v hv
        simp only [Builtin.zeroCells, Array.toList_map, List.mem_map] at hv
        obtain ⟨i, hi1, rfl⟩ := hv
        have hi2 : i < (hh - xs.length) * z.cells.size := by simpa using hi1
        have hpos : 0 < z.cells.size := by
          rcases Nat.eq_zero_or_pos z.cells.size with h0 | h0
          · rw [h0] at hi2; omega
          · exact h0
        have hm : i % z.cells.size < z.cells.size := Nat.mod_lt _ hpos
        have := Array.all_eq_true.1 hz1 (i % z.cells.size) hm
        simpa [hm] using this
      obtain ⟨w1, hr, hb1, ho1, ht1, hp1, hs1, hk1⟩ := run_storeCells (P := P) (Builtin.zeroCells z.cells (hh - xs.length)).toList 0 (xs.length * E.sz) cur.toList w hbx hone (by rw [hzl]; omega)
      have hL : o g = L := Own.lab hown g rfl
      refine op_of_run (hexec w1 ?_) (h w1 ⟨ho1, ht1, hp1, by omega, fun _ _ _ => rfl, fun b hb hm => hk1 b (fun e => hm (by rw [e, hL]; simp))⟩ (Own.ft ⟨by rw [flat_len], .inr ⟨g, c, (cur.toList.take (xs.length * E.sz) ++ (Builtin.zeroCells z.cells (hh - xs.length)).toList ++ cur.toList.drop (xs.length * E.sz + (Builtin.zeroCells z.cells (hh - xs.length)).toList.length)).toArray, rfl, Nat.zero_le _, ?_, h1, h2, ?_, ?_⟩⟩ (fun k hk => ?_)))
      · rw [if_neg (by omega)]
        obtain ⟨m, hm⟩ : ∃ m, hh - xs.length = m + 1 := ⟨hh - xs.length - 1, by omega⟩
        rw [hm] at hr ⊢
        simp [Builtin.clear_, hsl, run_zeroValue' ht hi, hr]
      · unfold Bx at hb1
        simpa using hb1
      · simp only [List.size_toArray, List.length_append, List.length_take, List.length_drop, hzl]
        omega
      · rw [List.take_append_of_le_length (by rw [List.length_append, List.length_take]; omega), List.take_append_of_le_length (by rw [List.length_take]; omega), List.take_take, Nat.min_self, h4]
      · have : g = k := by simpa [Value.ownBlock] using hk
        rw [← this]; exact hL
/-- The cut that is cleared. -/
theorem ask_tail (ht : TabOK P T) {t el bb : Nat} {z : Value} {s : Nat} (hu : find T.und t = some (.slice el)) (hi : find T.inf el = some (s, bb, z)) {A : Option Addr} {len c : Nat} {k1 k2 : IntKind} {h : Int} {x ol oh : Operand} (h0 : 0 ≤ h) (h1 : (len : Int) ≤ h) (h2 : h ≤ (c : Int))
    (hx : evo e x = some (.slice A len c)) (hl : evo e ol = some (.int k1 len)) (hh : evo e oh = some (.int k2 h)) : AskIs P e (Oper.mk d (.slice t x (some ol) (some oh) none) ty pos af g) (.slice (if c = len then A else A.map (·.add (len * s))) (h.toNat - len) (c - len)) w := by
  intro ρ hρ
  have hr := run_cut (P := P) (w := w) ht hu hi (A := A) (len := len) (cap := c) (lo := some (.int k1 len)) (hi' := some (.int k2 h)) rfl ⟨h0, h2, by omega, by omega, trivial⟩
  simp only [Int.toNat_natCast] at hr
  simp [execOp, hρ _ _ hx, hρ _ _ hl, hρ _ _ hh, hr]
end
end Go.Proofs.XC

set_option linter.unusedSimpArgs false
set_option linter.unusedVariables false
namespace Go.Proofs.XC
open Go

section
variable {P : Program} {a : Act} {w : World} {Q : Exit → Act → World → Prop} {c : Code}
theorem x_scope (h : Code.wpIn (WF none) 0 P c (Exit.noGoto Q) a w) : Code.wpIn (WF none) 0 P (.scope c) Q a w := wpIn_wide.2 (wp_scope_straight (wpIn_wide.1 h))
theorem sc_n (h : Q .normal a w) : Exit.noGoto Q .normal a w := h
theorem sc_r (h : Q .ret a w) : Exit.noGoto Q .ret a w := h
theorem sc_x {i : Nat} (h : Q (.exit i) a w) : Exit.noGoto Q (.exit i) a w := h
theorem np_sc (h : NP Q) : NP (Exit.noGoto Q) := h
end
end Go.Proofs.XC

set_option linter.unusedSimpArgs false
set_option linter.unusedVariables false
namespace Go.Proofs.XC
open Go

/-! ### Rows whose elements hold rows: those stand on blocks of one label, that nothing turns -/
structure ND (α : Type) where
  R : Type
  E : Enc R
  val : R → α
  inn : R → World → Prop
def Inn {α : Type} (D : ND α) (g : List D.R) (w : World) : Prop := ∀ r ∈ g, D.inn r w
/-- The row A of the elements xs, that one may append to; its elements' rows are read. -/
def NOwn {α : Type} (D : ND α) (et : TypeId) (A : Option Addr) (c : Nat) (xs : List α) (w : World) (o : Nat → Nat) (L F : Nat) : Prop :=
  ∃ g : List D.R, xs = g.map D.val ∧ Ft (Own D.E et (.slice A xs.length c) g) w o L ∧ Ft (Inn D g) w o F
def NRd {α : Type} (D : ND α) (A : Option Addr) (xs : List α) (w : World) (o : Nat → Nat) (L F : Nat) : Prop :=
  ∃ g : List D.R, xs = g.map D.val ∧ Ft (RdC D.E A g) w o L ∧ Ft (Inn D g) w o F
section
variable {ρ' : Option Nat} {ds : List Deferred} {P : Program} {T : Tab} {n : Nat} {a : Act} {e : Env} {w w' W : World} {o o' of : Nat → Nat} {L L' F F' : Nat} {M : List Nat} {Q : Exit → Act → World → Prop} {K : Act → World → Prop}
  {d : Option Tmp} {ty : TypeId} {pos : String} {af : Array Edge} {gd : Option (Nat × Bool)} {α : Type} {D : ND α} {et : TypeId} {A : Option Addr} {c : Nat} {xs ys : List α}
theorem NOwn.conv (h : NOwn D et A c xs w o L F) (h1 : ∀ P : World → Prop, Ft P w o L → Ft P w' o' L') (h2 : ∀ P : World → Prop, Ft P w o F → Ft P w' o' F') : NOwn D et A c xs w' o' L' F' := by
  obtain ⟨g, e1, e2, e3⟩ := h
  exact ⟨g, e1, h1 _ e2, h2 _ e3⟩
theorem NRd.conv (h : NRd D A xs w o L F) (h1 : ∀ P : World → Prop, Ft P w o L → Ft P w' o' L') (h2 : ∀ P : World → Prop, Ft P w o F → Ft P w' o' F') : NRd D A xs w' o' L' F' := by
  obtain ⟨g, e1, e2, e3⟩ := h
  exact ⟨g, e1, h1 _ e2, h2 _ e3⟩
theorem NOwn.st (h : NOwn D et A c xs w o L F) (s : St M w o w' o') (hL : L ∉ M ∧ F ∉ M) : NOwn D et A c xs w' o' L F := h.conv (fun _ f => f.st s hL.1) (fun _ f => f.st s hL.2)
theorem NRd.st (h : NRd D A xs w o L F) (s : St M w o w' o') (hL : L ∉ M ∧ F ∉ M) : NRd D A xs w' o' L F := h.conv (fun _ f => f.st s hL.1) (fun _ f => f.st s hL.2)
theorem NOwn.relab (h : NOwn D et A c xs w o L F) (r : Nat → Nat) (hr : (r L, r F) = (L', F')) : NOwn D et A c xs w (fun b => r (o b)) L' F' :=
  h.conv (fun _ f => f.relab r (Prod.mk.inj hr).1) (fun _ f => f.relab r (Prod.mk.inj hr).2)
theorem NRd.relab (h : NRd D A xs w o L F) (r : Nat → Nat) (hr : (r L, r F) = (L', F')) : NRd D A xs w (fun b => r (o b)) L' F' :=
  h.conv (fun _ f => f.relab r (Prod.mk.inj hr).1) (fun _ f => f.relab r (Prod.mk.inj hr).2)
theorem map_len {R : Type} {f : R → α} {g : List R} (h : xs = g.map f) : xs.length = g.length := by rw [h, List.length_map]
theorem NOwn.rd (h : NOwn D et A c xs w o L F) : NRd D A xs w o L F := by
  obtain ⟨g, e1, e2, e3⟩ := h
  exact ⟨g, e1, e2.imp fun _ h => Own.rd h, e3⟩
theorem NOwn.nil (D : ND α) (et : TypeId) (w : World) (o : Nat → Nat) (L F : Nat) : NOwn D et none 0 ([] : List α) w o L F :=
  ⟨[], rfl, Ft.of_all (fun _ => Own.nil _ _ _) _ _ _, Ft.of_all (fun _ r hr => absurd hr (by simp)) _ _ _⟩
theorem NRd.nil (D : ND α) (A : Option Addr) (w : World) (o : Nat → Nat) (L F : Nat) : NRd D A ([] : List α) w o L F :=
  ⟨[], rfl, Ft.of_all (fun _ h => absurd h (by simp)) _ _ _, Ft.of_all (fun _ r hr => absurd hr (by simp)) _ _ _⟩
theorem NRd.addr (h : NRd D A xs w o L F) {i : Int} (hi : 0 ≤ i ∧ i < (xs.length : Int)) : ∃ ad, A = some ad := by
  obtain ⟨g, e1, e2, e3⟩ := h
  exact RdC.addr e2.now (i := i) (by rw [← map_len e1]; exact hi)
theorem NRd.nul (h : NRd D none xs w o L F) : xs = [] := by
  obtain ⟨g, e1, e2, e3⟩ := h
  rw [e1, RdC.none e2.now]; rfl
theorem NOwn.cap (h : NOwn D et A c xs w o L F) : xs.length ≤ c := by
  obtain ⟨g, e1, e2, e3⟩ := h
  exact (Own.cap e2.now).2
/-! ### Elements that are rows -/
structure NR (β : Type) where
  A : Option Addr
  c : Nat
  x : List β
def dRows {β : Type} (E : Enc β) : ND (List β) := ⟨NR β, ⟨1, fun r => [.slice r.A r.x.length r.c], fun _ => rfl, fun _ => rfl⟩, fun r => r.x, fun r w => RdC E r.A r.x w ∧ r.x.length ≤ r.c⟩
theorem NRd.row {β : Type} {E : Enc β} {xs : List (List β)} {ad : Addr} (h : NRd (dRows E) (some ad) xs w o L F) (ht : TabOK P T) {t : TypeId} (ha : aggT T t = some false) {i : Int} (hi : 0 ≤ i ∧ i < (xs.length : Int)) :
    ∃ A c, Ft (fun W => LoadIs P t (ad.add (i.toNat * 1)) (.slice A (rdD [] xs i).length c) W) w o L ∧ Ft (RdC E A (rdD [] xs i)) w o F ∧ (rdD [] xs i).length ≤ c := by
  obtain ⟨g, e1, e2, e3⟩ := h
  have hl := map_len e1
  have hig : i.toNat < g.length := by omega
  have hv : rdD [] xs i = (g[i.toNat]).x := by
    rw [e1, rdD_at [] _ (i := i.toNat) (by omega) (by rw [List.length_map]; exact hig), List.getElem_map]; rfl
  refine ⟨(g[i.toNat]).A, (g[i.toNat]).c, e2.imp fun W hW => ?_, e3.imp fun W hW => ?_, ?_⟩
  · have hd : rdD (⟨none, 0, []⟩ : NR β) g i = g[i.toNat] := rdD_at _ _ (by omega) hig
    have hi2 : 0 ≤ i ∧ i < ((List.length (α := (dRows E).R) g : Nat) : Int) := by rw [← hl]; exact hi
    have := RdC.at (d := (⟨none, 0, []⟩ : NR β)) hW (i := i) hi2 (j := 0) (v := .slice (g[i.toNat]).A (g[i.toNat]).x.length (g[i.toNat]).c) (by rw [hd]; rfl)
    rw [hv]
    refine load1 ht ha ?_
    rw [← this]
    congr 1
  · rw [hv]; exact (hW _ (List.getElem_mem hig)).1
  · rw [hv]; exact (e3.now _ (List.getElem_mem hig)).2
theorem Inn.nilF {β : Type} (E : Enc β) (w : World) (o : Nat → Nat) (F : Nat) : Ft (Inn (dRows E) []) w o F := Ft.of_all (fun _ r hr => absurd hr (by simp)) _ _ _
theorem Inn.consF {β : Type} {E : Enc β} {A : Option Addr} {c : Nat} {x : List β} {g : List (NR β)} (f : Ft (RdC E A x) w o F) (hc : x.length ≤ c) (h : Ft (Inn (dRows E) g) w o F) : Ft (Inn (dRows E) (⟨A, c, x⟩ :: g)) w o F :=
  (f.and h).imp fun W hW r hr => by
    rcases List.mem_cons.1 hr with rfl | hr
    · exact ⟨hW.1, hc⟩
    · exact hW.2 r hr
/-- A literal of rows. -/
theorem NOwn.lit {β : Type} {E : Enc β} {b el : Nat} {cs : List Value} (hb : Ft (Bx b el cs) w o L) (g : List (NR β)) (hc : cs = g.flatMap (dRows E).E.f) (hi : Ft (Inn (dRows E) g) w o F) {xs : List (List β)} (hx : xs = g.map fun r => r.x) (hm : g.length ≤ 1000000) :
    NOwn (dRows E) el (some ⟨b, 0, none⟩) g.length xs w o L F :=
  ⟨g, hx, hb.imp fun W hW => by
    have hl := map_len hx
    rw [hl]
    refine ⟨flat_len (dRows E).E g, .inr ⟨b, g.length, cs.toArray, rfl, Nat.zero_le _, hW, Nat.le_refl _, by simp only [maxLen]; omega, ?_, ?_⟩⟩
    · simp only [List.size_toArray, hc]; exact flat_len (dRows E).E g
    · show cs.take (g.length * (dRows E).E.sz) = _
      subst hc
      exact List.take_of_length_le (Nat.le_of_eq (flat_len (dRows E).E g)), hi⟩
/-! ### Operations -/
theorem op_appendN (ht : TabOK P T) (hk : KnD n ds a e) {t el bytes : Nat} {z : Value} {s x : Operand} {A2 : Option Addr} {c2 L2 : Nat}
    (hu : find T.und t = some (.slice el)) (hi : find T.inf el = some (D.E.sz, bytes, z)) (hzs : z.cells.size = D.E.sz) (hsz : Nat.blt 0 D.E.sz = true) (hby : Nat.ble bytes 100000 = true)
    (hs : evo e s = some (.slice A xs.length c)) (hx : evo e x = some (.slice A2 ys.length c2)) (hown : NOwn D el A c xs w o L F) (hrd : NRd D A2 ys w o L2 F) (hF : F ≠ L) (hlim : xs.length + ys.length ≤ 1000000000)
    (h : ∀ A c w' o', St [L] w o w' o' → NOwn D el A c (xs ++ ys) w' o' L F → (xs ++ ys).length ≤ c → K (a.put d (.slice A (xs ++ ys).length c)) w') :
    (Oper.mk d (.call { callee := .builtin .append, args := #[s, x], argTypes := #[t, t] }) ty pos af gd).wpIn (WF ρ') 0 P a w K Q := by
  obtain ⟨g1, a1, a2, a3⟩ := hown
  obtain ⟨g2, b1, b2, b3⟩ := hrd
  have l1 := map_len a1
  have l2 := map_len b1
  rw [l2] at hx
  refine op_append (o := o) (E := D.E) (xs := g1) (ys := g2) ht hk hu hi hzs hsz hby hs hx a2 b2.now (by omega) fun A c w' o' hst hft hc => ?_
  have e1 : (xs ++ ys).length = (g1 ++ g2).length := by simp only [List.length_append]; omega
  have hF' : F ∉ [L] := by simp [hF]
  rw [← e1]
  refine h A c w' o' hst ⟨g1 ++ g2, by rw [a1, b1, List.map_append], by rw [e1]; exact hft, ?_⟩ (by rw [e1]; exact hc)
  exact ((a3.st hst hF').and (b3.st hst hF')).imp fun W hW r hr => (List.mem_append.1 hr).elim (hW.1 r) (hW.2 r)
theorem ask_cutN (ht : TabOK P T) {t el bb : Nat} {z : Value} (hu : find T.und t = some (.slice el)) (hi : find T.inf el = some (D.E.sz, bb, z)) (f : NRd D A xs w o L F) (hc : xs.length ≤ c) (lo hi' : Option Value) {l h : Nat} {cs : List Prop}
    (hcut : cutP xs.length c lo hi' = some (l, h, cs)) (hp : Conj cs) (h1 : l ≤ h) (h2 : h ≤ xs.length) :
    ∃ A' c', (∀ {e : Env} {x : Operand} {ol oh : Option Operand} {d ty pos af g}, evo e x = some (.slice A xs.length c) → optV (evo e) ol = some lo → optV (evo e) oh = some hi' → ∀ W, AskIs P e (Oper.mk d (.slice t x ol oh none) ty pos af g) (.slice A' ((xs.take h).drop l).length c') W) ∧
      NRd D A' ((xs.take h).drop l) w o L F ∧ ((xs.take h).drop l).length ≤ c' := by
  obtain ⟨g, e1, e2, e3⟩ := f
  have hl := map_len e1
  have e4 : ((xs.take h).drop l).length = ((g.take h).drop l).length := by simp only [List.length_drop, List.length_take, hl]
  rw [hl] at hcut hc h2 ⊢
  obtain ⟨A', c', k1, k2, k3⟩ := ask_cut (P := P) ht hu hi e2 hc lo hi' hcut hp h1 h2
  rw [e4]
  exact ⟨A', c', k1, ⟨(g.take h).drop l, by rw [e1, List.map_drop, List.map_take], k2, e3.imp fun W hW r hr => hW r (List.mem_of_mem_take (List.mem_of_mem_drop hr))⟩, k3⟩
theorem ask_takeN (ht : TabOK P T) {t el bb : Nat} {z : Value} (hu : find T.und t = some (.slice el)) (hi : find T.inf el = some (D.E.sz, bb, z)) (f : NOwn D el A c xs w o L F) (hc : xs.length ≤ c) {k : IntKind} (m : Int)
    (h0 : 0 ≤ m) (h2 : m ≤ (xs.length : Int)) :
    ∃ A' c', (∀ {e : Env} {x oh : Operand} {d ty pos af g}, evo e x = some (.slice A xs.length c) → evo e oh = some (.int k m) → ∀ W, AskIs P e (Oper.mk d (.slice t x none (some oh) none) ty pos af g) (.slice A' (xs.take m.toNat).length c') W) ∧
      NOwn D el A' c' (xs.take m.toNat) w o L F ∧ (xs.take m.toNat).length ≤ c' := by
  obtain ⟨g, e1, e2, e3⟩ := f
  have hl := map_len e1
  have e4 : (xs.take m.toNat).length = (g.take m.toNat).length := by simp only [List.length_take, hl]
  rw [hl] at e2 hc h2 ⊢
  obtain ⟨k1, k2, k3⟩ := ask_takeE (P := P) ht hu hi e2 hc (k := k) m h0 h2
  rw [e4]
  exact ⟨A, c, k1, ⟨g.take m.toNat, by rw [e1, List.map_take], by rw [e4]; exact k2, e3.imp fun W hW r hr => hW r (List.mem_of_mem_take hr)⟩, k3⟩
/-- All blocks of one label get another. -/
theorem relab_ex (o : Nat → Nat) (r : Nat → Nat) : ∃ o' : Nat → Nat, o' = fun b => r (o b) := ⟨_, rfl⟩
end
/-! ### Labels at the end, where the first label is that of what is frozen -/
section
variable {w W W2 : World} {o oi of o1 o2 : Nat → Nat} {m : Nat} {MM N Ls Lm Sh : List Nat}
theorem St.closeF {LF : Nat} (h : St MM w oi W of) (ha : ∀ b i, oi b = i + 1 → (LF :: (Lm ++ Sh))[i]? = some (o b)) (hM : MM.all (fun l => Nat.blt 1 l && Nat.ble l (Lm.length + 1)) = true) (ρ : Nat → Nat) : St Lm w o W (cl w oi o MM ρ of) := by
  have key : ∀ b, o b ∉ Lm → oi b ∉ MM := fun b hn hx => hn (by
    have h1 := List.all_eq_true.1 hM _ hx
    simp only [Bool.and_eq_true] at h1
    have h2 : 1 < oi b := by simpa using h1.1
    have h3 : oi b ≤ Lm.length + 1 := Nat.le_of_ble_eq_true h1.2
    have h4 := ha b (oi b - 1) (by omega)
    obtain ⟨j, hj⟩ : ∃ j, oi b - 1 = j + 1 := ⟨oi b - 2, by omega⟩
    rw [hj, List.getElem?_cons_succ, List.getElem?_append_left (by omega)] at h4
    exact List.mem_of_getElem? h4)
  exact ⟨h.os, h.tape, h.output, h.size, fun b hb hn => cl_old hb (key b hn), fun b hb hn => h.kept b hb (key b hn)⟩
end
end Go.Proofs.XC

set_option linter.unusedSimpArgs false
set_option linter.unusedVariables false
namespace Go.Proofs.XC
open Go

section
variable {ρ : Option Nat} {ds : List Deferred} {P : Program} {T : Tab} {n : Nat} {a : Act} {e : Env} {w w' w2 : World} {o o' o2 os : Nat → Nat} {L R : Nat} {Q : Exit → Act → World → Prop} {K : Act → World → Prop}
  {d : Option Tmp} {ty : TypeId} {pos : String} {af : Array Edge} {g : Option (Nat × Bool)} {α : Type} {E : Enc α}
/-- append(nil, make([]T, m)...): room for m. -/
theorem op_appendZ (E : Enc α) (ht : TabOK P T) (hk : KnD n ds a e) {t tn el bytes : Nat} {kn kk : IntKind} {z : Value} {s x : Operand} {m : Int} (hu : find T.und t = some (.slice el)) (hun : find T.und tn = some (.int kn)) (hi : find T.inf el = some (E.sz, bytes, z))
    (hzs : z.cells.size = E.sz) (hsz : Nat.blt 0 E.sz = true) (hby : Nat.ble bytes 100000 = true) (hs : evo e s = some (.slice none 0 0)) (hx : evo e x = some (.int kk m)) (h0 : 0 < m) (hm : m ≤ 1000000000) (L : Nat)
    (h : ∀ A c w' o', St [] w o w' o' → Ft (Own E el (.slice A 0 c) ([] : List α)) w' o' L → K (a.put d (.slice A m.toNat c)) w') :
    (Oper.mk d (.call { callee := .builtin .append, args := #[s, x], argTypes := #[t, tn] }) ty pos af g).wpIn (WF ρ) 0 P a w K Q := by
  obtain ⟨i, hinf, his, hib, hiz⟩ := ht.i hi
  have hsz' : 0 < E.sz := by simpa [Nat.blt_eq] using hsz
  have hby' : bytes ≤ 100000 := by simpa using hby
  have hev1 := hk.ev hs
  have hev2 := hk.ev hx
  obtain ⟨k, rfl⟩ : ∃ k : Nat, m = (k : Int) := ⟨m.toNat, by omega⟩
  have hmb : k * i.bytes ≤ 1000000000 * 100000 := Nat.mul_le_mul (by omega) (by omega)
  have hr := Lib.run_append_nil_zeros (P := P) w t tn ty el i z kk kn (ht.u hu) (ht.u hun) hinf hiz k (by omega) (by omega) (by omega) (by omega)
  have hexec : (execOp a.eval (Oper.mk d (.call { callee := .builtin .append, args := #[s, x], argTypes := #[t, tn] }) ty pos af g)).run P w = .ok (.value (.slice (some ⟨w.heap.size, 0, none⟩) k (grownCap w k 0 el))) (w.drew.alloc (.cells (Builtin.zeroCells z.cells k ++ Builtin.zeroCells z.cells (grownCap w k 0 el - k)) el)) := by
    simp [execOp, resolve, invoke, builtin, hev1, hev2, hr]
  have hge := grownCap_ge w k 0 el
  have hcm : grownCap w k 0 el ≤ maxLen := grownCap_le_maxLen w k 0 el (by simp only [maxLen]; omega)
  refine op_of_run hexec (h _ (grownCap w k 0 el) _ (newLab o w.heap.size L) ⟨rfl, rfl, rfl, by simp, fun b hb => ?_, fun b hb _ => heap_alloc_old w.drew _ hb⟩ (Own.ft ⟨by simp, .inr ⟨w.heap.size, _, _, rfl, Nat.zero_le _, heap_alloc_new w.drew _, Nat.zero_le _, hcm, ?_, by simp⟩⟩ fun k hk => ?_))
  · simp [newLab, Nat.ne_of_lt hb]
  · simp only [Array.size_append, size_zeroCells, hzs, ← Nat.add_mul]
    congr 1
    omega
  · have : w.heap.size = k := by simpa [Value.ownBlock] using hk
    simp [newLab, this]
theorem ask_take0 (ht : TabOK P T) {t el s bb : Nat} {z : Value} (hu : find T.und t = some (.slice el)) (hi : find T.inf el = some (s, bb, z)) {A : Option Addr} {l c : Nat} {k : IntKind} {x oh : Operand}
    (hx : evo e x = some (.slice A l c)) (hoh : evo e oh = some (.int k 0)) : AskIs P e (Oper.mk d (.slice t x none (some oh) none) ty pos af g) (.slice A 0 c) w := by
  intro ρ hρ
  have hr := run_cut (P := P) (w := w) ht hu hi (A := A) (len := l) (cap := c) (lo := none) (hi' := some (.int k 0)) rfl ⟨Int.le_refl _, by omega, trivial⟩
  have e3 : (if c = 0 then A else A.map (·.add (0 * s))) = A := by
    split
    · rfl
    · cases A <;> simp [Addr.add]
  rw [e3] at hr
  simp [execOp, hρ _ _ hx, hρ _ _ hoh, hr]
/-! ### A call under other labels, that turns nothing -/
theorem St.back (h : St [] w os w2 o2) (o : Nat → Nat) : St [] w o w2 (fun b => if b < w.heap.size then o b else o2 b) :=
  ⟨h.os, h.tape, h.output, h.size, fun b hb _ => by simp [hb], fun b hb _ => h.kept b hb (by simp)⟩
theorem Ft.back {Q : World → Prop} (f : Ft Q w2 o2 R) (h : St [] w os w2 o2) (hR : ∀ b, os b ≠ R) (o : Nat → Nat) : Ft Q w2 (fun b => if b < w.heap.size then o b else o2 b) R :=
  f.mono fun b hb _ => by
    by_cases hlt : b < w.heap.size
    · exact absurd ((h.lab b hlt (by simp)).symm.trans hb) (hR b)
    · simp [hlt, hb]
/-- One label apart from all others. -/
def oneLab (o : Nat → Nat) (l : Nat) : Nat → Nat := fun b => if o b = l then 1 else 0
theorem oneLab_ne {o : Nat → Nat} {l : Nat} (R : Nat) (h : Nat.blt 1 R = true) (b : Nat) : oneLab o l b ≠ R := by
  have : 1 < R := by simpa using h
  unfold oneLab; split <;> omega
theorem Ft.lab1 {Q : World → Prop} (f : Ft Q w o L) : Ft Q w (oneLab o L) 1 := f.mono fun b hb _ => by simp [oneLab, hb]
theorem Ft.lab0 {Q : World → Prop} {l : Nat} (f : Ft Q w o L) (h : Nat.beq L l = false) : Ft Q w (oneLab o l) 0 := f.mono fun b hb _ => by
  have : L ≠ l := by intro e; rw [e] at h; simp at h
  simp [oneLab, hb, this]
end
end Go.Proofs.XC

set_option linter.unusedSimpArgs false
set_option linter.unusedVariables false
namespace Go.Proofs.XC
open Go

/-! ### copy, into an own row -/
def cpy {α : Type} (n : Nat) (xs ys : List α) : List α := xs.take n ++ (ys.take (xs.length - n) ++ xs.drop (n + ys.length))
theorem cpy_len {α : Type} {n : Nat} {xs ys : List α} (h : n ≤ xs.length) : (cpy n xs ys).length = xs.length := by
  unfold cpy; simp only [List.length_append, List.length_take, List.length_drop]; omega
section
variable {ρ : Option Nat} {ds : List Deferred} {P : Program} {T : Tab} {n : Nat} {a : Act} {e : Env} {w w' : World} {o o' : Nat → Nat} {L : Nat} {Q : Exit → Act → World → Prop} {K : Act → World → Prop}
  {d : Option Tmp} {ty : TypeId} {pos : String} {af : Array Edge} {g : Option (Nat × Bool)} {α : Type} {E : Enc α}
/-- The rest of a row, from m on: where it is. -/
theorem ask_rest (ht : TabOK P T) {t el bb : Nat} {z : Value} {s : Nat} (hu : find T.und t = some (.slice el)) (hi : find T.inf el = some (s, bb, z)) {A : Option Addr} {len c : Nat} {k1 : IntKind} {m : Int} {x ol : Operand} (h0 : 0 ≤ m) (h1 : m ≤ (len : Int)) (h2 : len ≤ c)
    (hx : evo e x = some (.slice A len c)) (hl : evo e ol = some (.int k1 m)) : AskIs P e (Oper.mk d (.slice t x (some ol) none none) ty pos af g) (.slice (if c = m.toNat then A else A.map (·.add (m.toNat * s))) (len - m.toNat) (c - m.toNat)) w := by
  intro ρ hρ
  have hr := run_cut (P := P) (w := w) ht hu hi (A := A) (len := len) (cap := c) (lo := some (.int k1 m)) (hi' := none) rfl ⟨h0, by omega, trivial⟩
  simp [execOp, hρ _ _ hx, hρ _ _ hl, hr]
theorem copy_cells (ht : TabOK P T) {el bytes : Nat} {z : Value} (hi : find T.inf el = some (E.sz, bytes, z)) {A2 : Option Addr} {c2 : Nat} {ys : List α} (hrd : RdC E A2 ys w) {k : Nat} (hk : k ≤ ys.length) :
    (Builtin.firstCells E.sz k (.slice A2 ys.length c2)).run P w = .ok ((ys.take k).flatMap E.f).toArray w := by
  cases A2 with
  | none =>
    obtain rfl := hrd.none
    obtain rfl : k = 0 := by simpa using hk
    simp [Builtin.firstCells]
  | some ad =>
    have hl : ((ys.take k).flatMap E.f).length = k * E.sz := by rw [flat_len, List.length_take]; congr 1; omega
    have hpre : (ys.take k).flatMap E.f ++ (ys.drop k).flatMap E.f = ys.flatMap E.f := by rw [← List.flatMap_append, List.take_append_drop]
    have := run_loadCells (P := P) (w := w) (k * E.sz) 0 ad #[] ((ys.take k).flatMap E.f) hl (fun j hj => by
      have hj2 : j < ((ys.take k).flatMap E.f).length := by rw [hl]; exact hj
      rw [List.getElem?_eq_getElem hj2, Nat.zero_add]
      refine RdC.news hrd j _ ?_
      rw [← hpre, List.getElem?_append_left hj2, List.getElem?_eq_getElem hj2])
    simp [Builtin.firstCells, loadCells, this]
theorem flat_take {m : Nat} {xs : List α} (h : m ≤ xs.length) : (xs.take m).flatMap E.f = (xs.flatMap E.f).take (m * E.sz) := by
  have hpre : (xs.take m).flatMap E.f ++ (xs.drop m).flatMap E.f = xs.flatMap E.f := by rw [← List.flatMap_append, List.take_append_drop]
  have hl : ((xs.take m).flatMap E.f).length = m * E.sz := by rw [flat_len, List.length_take, Nat.min_eq_left h]
  rw [← hpre, ← hl, List.take_left]
theorem flat_drop {m : Nat} {xs : List α} (h : m ≤ xs.length) : (xs.drop m).flatMap E.f = (xs.flatMap E.f).drop (m * E.sz) := by
  have hpre : (xs.take m).flatMap E.f ++ (xs.drop m).flatMap E.f = xs.flatMap E.f := by rw [← List.flatMap_append, List.take_append_drop]
  have hl : ((xs.take m).flatMap E.f).length = m * E.sz := by rw [flat_len, List.length_take, Nat.min_eq_left h]
  rw [← hpre, ← hl, List.drop_left]
theorem op_copy (ht : TabOK P T) (hk : KnD n ds a e) {t t2 el bytes : Nat} {z : Value} {x y : Operand} {A : Option Addr} {c m : Nat} {xs ys : List α} {A2 : Option Addr} {c2 : Nat}
    (hu : find T.und t = some (.slice el)) (hi : find T.inf el = some (E.sz, bytes, z)) (hm : m ≤ xs.length) (hc : xs.length ≤ c)
    (hx : evo e x = some (.slice (if c = m then A else A.map (·.add (m * E.sz))) (xs.length - m) (c - m))) (hy : evo e y = some (.slice A2 ys.length c2)) (hown : Ft (Own E el (.slice A xs.length c) xs) w o L) (hrd : RdC E A2 ys w)
    (h : ∀ w', St [L] w o w' o → Ft (Own E el (.slice A (cpy m xs ys).length c) (cpy m xs ys)) w' o L → K (a.put d (.int .i64 ((min ys.length (xs.length - m) : Nat) : Int))) w') :
    (Oper.mk d (.call { callee := .builtin .copy, args := #[x, y], argTypes := #[t, t2] }) ty pos af g).wpIn (WF ρ) 0 P a w K Q := by
  have hev1 : a.eval x = _ := hk.ev hx
  have hev2 : a.eval y = .slice A2 ys.length c2 := hk.ev hy
  have hsl := run_underlying' (w := w) (ht.u hu)
  have hexec : ∀ (v' : Value) (w' : World), (Builtin.copy_ #[t, t2] ty #[.slice (if c = m then A else A.map (·.add (m * E.sz))) (xs.length - m) (c - m), .slice A2 ys.length c2]).run P w = .ok v' w' →
      (execOp a.eval (Oper.mk d (.call { callee := .builtin .copy, args := #[x, y], argTypes := #[t, t2] }) ty pos af g)).run P w = .ok (.value v') w' := by
    intro v' w' hr
    simp [execOp, resolve, invoke, builtin, hev1, hev2, hr]
  have hfc := copy_cells (c2 := c2) ht hi hrd (k := min ys.length (xs.length - m)) (Nat.min_le_left _ _)
  have hcl := cpy_len (ys := ys) hm
  by_cases hz : c = m
  · have hxm : xs.length = m := by omega
    have e1 : cpy m xs ys = xs := by unfold cpy; rw [hxm, Nat.sub_self, List.take_zero, List.nil_append, List.take_of_length_le (by omega), List.drop_eq_nil_of_le (by omega), List.append_nil]
    rw [if_pos hz] at hexec
    rw [e1] at h
    have hk0 : min ys.length (xs.length - m) = 0 := by omega
    rw [hk0] at hfc h
    refine op_of_run (hexec (.int .i64 0) w ?_) (h w (St.refl _ w o) hown)
    rw [List.take_zero, List.flatMap_nil] at hfc
    cases A with
    | none => simp [Builtin.copy_, hsl, run_sizeOf' ht hi, Builtin.lenOf, hfc, hk0, goInt]
    | some ad => simp [Builtin.copy_, hsl, run_sizeOf' ht hi, Builtin.lenOf, hfc, hk0, goInt, storeCells]
  · rw [if_neg hz] at hexec
    rcases hown.now.2 with ⟨hv, h0⟩ | ⟨g, cap, cur, hv, hb, hg, h1, h2, h3, h4⟩
    · injection hv with hA hk0 hc0
      omega
    · injection hv with hA hk0 hc0
      subst hA; subst hc0
      have hbx : Bx g el cur.toList w := by unfold Bx; simpa using hg
      have hl : cur.toList.length = c * E.sz := by simpa using h3
      have hx1 : xs.flatMap E.f = cur.toList.take (xs.length * E.sz) := h4.symm
      have e1 : cpy m xs ys = xs.take m ++ (ys.take (min ys.length (xs.length - m)) ++ xs.drop (m + min ys.length (xs.length - m))) := by
        unfold cpy
        by_cases c1 : ys.length ≤ xs.length - m
        · rw [Nat.min_eq_left c1, List.take_of_length_le c1, List.take_length]
        · rw [Nat.min_eq_right (by omega), List.drop_eq_nil_of_le (by omega), List.drop_eq_nil_of_le (by omega)]
      have hk1 : min ys.length (xs.length - m) ≤ ys.length := Nat.min_le_left _ _
      have hk2 : m + min ys.length (xs.length - m) ≤ xs.length := by omega
      generalize hkk : min ys.length (xs.length - m) = k at *
      have hkl : ((ys.take k).flatMap E.f).length = k * E.sz := by rw [flat_len, List.length_take]; congr 1; omega
      have hle : (m + k) * E.sz ≤ xs.length * E.sz := Nat.mul_le_mul_right _ hk2
      have hle2 : xs.length * E.sz ≤ c * E.sz := Nat.mul_le_mul_right _ hc
      rw [Nat.add_mul] at hle
      obtain ⟨w1, hr, hb1, ho1, ht1, hp1, hs1, hk1'⟩ := run_storeCells (P := P) ((ys.take k).flatMap E.f) 0 (m * E.sz) cur.toList w hbx (flat_one _) (by rw [hkl]; omega)
      have hL : o g = L := Own.lab hown g rfl
      refine op_of_run (hexec (.int .i64 (k : Int)) w1 ?_) (h w1 ⟨ho1, ht1, hp1, by omega, fun _ _ _ => rfl, fun b hb hm => hk1' b (fun e => hm (by rw [e, hL]; simp))⟩ (Own.ft ⟨by rw [flat_len], .inr ⟨g, c, (cur.toList.take (m * E.sz) ++ (ys.take k).flatMap E.f ++ cur.toList.drop (m * E.sz + ((ys.take k).flatMap E.f).length)).toArray, rfl, Nat.zero_le _, ?_, by rw [hcl]; exact h1, h2, ?_, ?_⟩⟩ (fun k hk => ?_)))
      · simp [Builtin.copy_, hsl, run_sizeOf' ht hi, Builtin.lenOf, hkk, hfc, hr, goInt]
      · unfold Bx at hb1
        simpa using hb1
      · simp only [List.size_toArray, List.length_append, List.length_take, List.length_drop, hkl, hl]
        omega
      · rw [hcl, e1, List.flatMap_append, List.flatMap_append, flat_take hm, flat_drop hk2, hx1, List.take_take, Nat.min_eq_left (by omega)]
        rw [hkl, List.append_assoc, List.take_append, List.take_append, List.length_take, List.take_take, hkl, List.drop_take, Nat.add_mul]
        congr 1
        · congr 1; omega
        · congr 1
          · rw [List.take_of_length_le (by rw [hkl]; omega)]
          · congr 1; omega
      · have : g = k := by simpa [Value.ownBlock] using hk
        rw [← this]; exact hL
theorem op_copy0 (ht : TabOK P T) (hk : KnD n ds a e) {t t2 el bytes : Nat} {z : Value} {x y : Operand} {A : Option Addr} {c : Nat} {xs ys : List α} {A2 : Option Addr} {c2 : Nat}
    (hu : find T.und t = some (.slice el)) (hi : find T.inf el = some (E.sz, bytes, z)) (hc : xs.length ≤ c)
    (hx : evo e x = some (.slice A xs.length c)) (hy : evo e y = some (.slice A2 ys.length c2)) (hown : Ft (Own E el (.slice A xs.length c) xs) w o L) (hrd : RdC E A2 ys w)
    (h : ∀ w', St [L] w o w' o → Ft (Own E el (.slice A (cpy 0 xs ys).length c) (cpy 0 xs ys)) w' o L → K (a.put d (.int .i64 ((min ys.length (xs.length - 0) : Nat) : Int))) w') :
    (Oper.mk d (.call { callee := .builtin .copy, args := #[x, y], argTypes := #[t, t2] }) ty pos af g).wpIn (WF ρ) 0 P a w K Q := by
  refine op_copy ht hk hu hi (m := 0) (Nat.zero_le _) hc ?_ hy hown hrd h
  have e3 : (if c = 0 then A else A.map (·.add (0 * E.sz))) = A := by
    split
    · rfl
    · cases A <;> simp [Addr.add]
  rw [e3]; exact hx
end
end Go.Proofs.XC

set_option linter.unusedSimpArgs false
set_option linter.unusedVariables false
namespace Go.Proofs.XC
open Go

/-! ### Elements that are structs with rows -/
def CellsAt (ad : Addr) (cs : List Value) (w : World) : Prop := ∀ (j : Nat) (v : Value), cs[j]? = some v → w.cell? (ad.add j) = some v
section
variable {P : Program} {T : Tab} {w w' W : World} {o o' : Nat → Nat} {L L' F F' : Nat} {α : Type} {D : ND α} {A : Option Addr} {c : Nat} {xs ys : List α} {ad : Addr} {cs : List Value}
theorem NRd.el (h : NRd D (some ad) xs w o L F) (dx : α) {i : Int} (hi : 0 ≤ i ∧ i < (xs.length : Int)) :
    ∃ r : D.R, D.val r = rdD dx xs i ∧ Ft (fun W => CellsAt (ad.add (i.toNat * D.E.sz)) (D.E.f r) W) w o L ∧ Ft (D.inn r) w o F := by
  obtain ⟨g, e1, e2, e3⟩ := h
  have hl := map_len e1
  have hig : i.toNat < g.length := by omega
  refine ⟨g[i.toNat], ?_, e2.imp fun W hW j v hv => ?_, e3.imp fun W hW => hW _ (List.getElem_mem hig)⟩
  · rw [e1, rdD_at dx _ (i := i.toNat) (by omega) (by rw [List.length_map]; exact hig), List.getElem_map]
  · have hd : rdD g[i.toNat] g i = g[i.toNat] := rdD_at _ _ (by omega) hig
    exact RdC.at (d := g[i.toNat]) hW (i := i) (by rw [← hl]; exact hi) (by rw [hd]; exact hv)
theorem CellsAt.one (h : CellsAt ad cs w) (ht : TabOK P T) {t : TypeId} {v : Value} (ha : aggT T t = some false) (j : Nat) (hv : cs[j]? = some v) : LoadIs P t (ad.add j) v w := load1 ht ha (h j v hv)
theorem CellsAt.all (h : CellsAt ad cs w) (ht : TabOK P T) {t s b : Nat} {z : Value} (ha : aggT T t = some true) (hi : find T.inf t = some (s, b, z)) (hl : cs.length = s) : LoadIs P t ad (.agg cs.toArray) w :=
  loadN ht ha hi hl fun j hj => by
    obtain ⟨v, hv⟩ : ∃ v, cs[j]? = some v := ⟨_, List.getElem?_eq_getElem (by omega)⟩
    rw [hv]; exact h j v hv
theorem Inn.nilD (D : ND α) (w : World) (o : Nat → Nat) (F : Nat) : Ft (Inn D []) w o F := Ft.of_all (fun _ r hr => absurd hr (by simp)) _ _ _
theorem Inn.consD {r : D.R} {g : List D.R} (f : Ft (D.inn r) w o F) (h : Ft (Inn D g) w o F) : Ft (Inn D (r :: g)) w o F :=
  (f.and h).imp fun W hW r' hr => by
    rcases List.mem_cons.1 hr with rfl | hr
    · exact hW.1
    · exact hW.2 r' hr
/-- A literal of such elements. -/
theorem NOwn.litD {b el : Nat} (hb : Ft (Bx b el cs) w o L) (g : List D.R) (hc : cs = g.flatMap D.E.f) (hi : Ft (Inn D g) w o F) (hx : xs = g.map D.val) (hm : g.length ≤ 1000000) :
    NOwn D el (some ⟨b, 0, none⟩) g.length xs w o L F :=
  ⟨g, hx, hb.imp fun W hW => by
    have hl := map_len hx
    rw [hl]
    refine ⟨flat_len D.E g, .inr ⟨b, g.length, cs.toArray, rfl, Nat.zero_le _, hW, Nat.le_refl _, by simp only [maxLen]; omega, ?_, ?_⟩⟩
    · simp only [List.size_toArray, hc]; exact flat_len D.E g
    · show cs.take (g.length * D.E.sz) = _
      subst hc
      exact List.take_of_length_le (Nat.le_of_eq (flat_len D.E g)), hi⟩
end
/-! ### append, of a row of another name -/
section
variable {ρ : Option Nat} {ds : List Deferred} {P : Program} {T : Tab} {n : Nat} {a : Act} {e : Env} {w w' : World} {o o' : Nat → Nat} {L : Nat} {Q : Exit → Act → World → Prop} {K : Act → World → Prop}
  {d : Option Tmp} {ty : TypeId} {pos : String} {af : Array Edge} {g : Option (Nat × Bool)} {α : Type} {E : Enc α}
theorem append_t2 (ht : TabOK P T) {t t2 el el2 bytes len c s : Nat} {A : Option Addr} {x : Value} {z : Value} (hi : find T.inf el = some (s, bytes, z)) (h1 : P.underlying t = some (.slice el)) (h2 : P.underlying t2 = some (.slice el2)) : (Builtin.append_ #[t, t2] ty #[.slice A len c, x]).run P w = (Builtin.append_ #[t, t] ty #[.slice A len c, x]).run P w := by
  have r1 := run_underlying' (w := w) h1
  have r2 := run_underlying' (w := w) h2
  simp [Builtin.append_, r1, r2, run_sizeOf' ht hi]
theorem op_append2 (ht : TabOK P T) (hk : KnD n ds a e) {t t2 el el2 bytes : Nat} {z : Value} {s x : Operand} {A0 : Option Addr} {n0 c0 : Nat} {xs ys : List α} {A2 : Option Addr} {c2 : Nat}
    (hu : find T.und t = some (.slice el)) (hu2 : find T.und t2 = some (.slice el2)) (hi : find T.inf el = some (E.sz, bytes, z)) (hzs : z.cells.size = E.sz) (hsz : Nat.blt 0 E.sz = true) (hby : Nat.ble bytes 100000 = true)
    (hs : evo e s = some (.slice A0 n0 c0)) (hx : evo e x = some (.slice A2 ys.length c2)) (hown : Ft (Own E el (.slice A0 n0 c0) xs) w o L) (hrd : RdC E A2 ys w) (hlim : xs.length + ys.length ≤ 1000000000)
    (h : ∀ A c w' o', St [L] w o w' o' → Ft (Own E el (.slice A (xs ++ ys).length c) (xs ++ ys)) w' o' L → (xs ++ ys).length ≤ c → K (a.put d (.slice A (xs ++ ys).length c)) w') :
    (Oper.mk d (.call { callee := .builtin .append, args := #[s, x], argTypes := #[t, t2] }) ty pos af g).wpIn (WF ρ) 0 P a w K Q := by
  obtain ⟨i, hinf, his, hib, hiz⟩ := ht.i hi
  have hsz' : 0 < E.sz := by simpa [Nat.blt_eq] using hsz
  have hby' : bytes ≤ 100000 := by simpa using hby
  have hund := ht.u hu
  have hev1 : a.eval s = (.slice A0 n0 c0) := hk.ev hs
  have hev2 : a.eval x = .slice A2 ys.length c2 := hk.ev hx
  have hexec : ∀ (v' : Value) (w' : World), (Builtin.append_ #[t, t] ty #[(.slice A0 n0 c0), .slice A2 ys.length c2]).run P w = .ok v' w' →
      (execOp a.eval (Oper.mk d (.call { callee := .builtin .append, args := #[s, x], argTypes := #[t, t2] }) ty pos af g)).run P w = .ok (.value v') w' := by
    intro v' w' hr
    rw [← append_t2 ht hi (ht.u hu) (ht.u hu2)] at hr
    simp [execOp, resolve, invoke, builtin, hev1, hev2, hr]
  have hbytes : ∀ k, k ≤ 1000000000 → k * bytes ≤ 140737488355328 := fun k hk => by
    have : k * bytes ≤ 1000000000 * 100000 := Nat.mul_le_mul hk hby'
    omega
  rcases Nat.eq_zero_or_pos ys.length with h0 | h0
  · obtain rfl : ys = [] := List.eq_nil_of_length_eq_zero h0
    obtain ⟨A, c, hv, hc, hcm⟩ := hown.now.shape
    injection hv with q1 q2 q3
    subst q1 q2 q3
    have hr : (Builtin.append_ #[t, t] ty #[.slice A0 xs.length c0, .slice A2 0 c2]).run P w = .ok (.slice A0 xs.length c0) w := by
      have e1 : (Builtin.firstCells E.sz 0 (.slice A2 0 c2)).run P w = .ok #[] w := by
        cases A2 <;> simp [Builtin.firstCells, loadCells, loadCellsFrom]
      have hsl := run_underlying' (w := w) hund
      simp [Builtin.append_, hsl, run_sizeOf' ht hi, Builtin.lenOf, hc, e1]
      cases A0 <;> simp [storeCells]
    refine op_of_run (hexec _ _ hr) ?_
    have := h A0 c0 w o (St.refl _ w o) (by simpa using hown) (by simpa using hc)
    simpa using this
  · obtain ⟨ad, rfl, hcc⟩ := hrd h0
    obtain ⟨v', w1, hr, hown', hg, _, hat⟩ := run_append_own_at (P := P) w 0 t ty el i z E.sz bytes hund hinf hiz his hib hzs hsz' (.slice A0 n0 c0) xs.length (xs.flatMap E.f) hown.now ad ys.length c2 (ys.flatMap E.f)
      (flat_len E ys) (RdC.news hrd) (flat_one ys) (by simp only [maxLen]; omega) (hbytes _ hlim) (Nat.zero_le _)
    refine op_of_run (hexec _ _ hr) ?_
    have hOwn : Own E el v' (xs ++ ys) w1 := by
      unfold Own
      rw [List.length_append, List.flatMap_append]
      exact hown'
    obtain ⟨A, c, rfl, hc, _⟩ := hOwn.shape
    have hL := Own.lab hown
    refine h A c w1 (fun b => if b < w.heap.size then o b else L) ⟨hg.os, hg.tape, hg.output, hg.size, fun b hb => by simp [hb], fun b hb hm => hg.block b hb (fun e => hm (by rw [hL b e.symm]; simp))⟩
      (hOwn.ft fun k hk => ?_) hc
    rcases hat with hat | hat
    · rw [hat] at hk
      by_cases hlt : k < w.heap.size
      · simp [hlt, hL k hk]
      · simp [hlt]
    · rw [hat] at hk
      cases hk
      simp

end
end Go.Proofs.XC

set_option linter.unusedSimpArgs false
set_option linter.unusedVariables false
namespace Go.Proofs.XC
open Go

/-! ### Arguments that are rows of structs with rows -/
section
variable {P : Program} {T : Tab} {w : World} {H : Type} {enc : TypeId × Value → H} {spare : Nat → Bool} {held : Bool}
theorem open_rowsR (ht : TabOK P T) {α : Type} {E : Enc α} {WF : α → Prop} {r : Reach} {b0 d t e bb : Nat} {z : Value} {ks : List RK} {v : Value} {x : DataW H} {ps : List MemPlace} (hu : find T.und t = some (.slice e)) (hi : find T.inf e = some (E.sz, bb, z)) (hk : rksP T d e = some ks)
    (hE : ∀ cs, AreR enc P w spare held ks cs → ∃ y, cs = E.f y ∧ WF y) (hval : Value.okWide P w r b0 t v) (h : DataW.Trod enc P w 0 spare held t v x ps) :
    ∃ (A : Option Addr) (c : Nat) (xs : List α), v = .slice A xs.length c ∧ RdC E A xs w ∧ xs.length ≤ c ∧ c ≤ maxLen ∧ ∀ y ∈ xs, WF y := by
  obtain ⟨a, len, cap, rfl⟩ := WideShapes.okWide_slice (ht.u hu) hval
  obtain ⟨fuel, hf⟩ := h
  cases fuel with
  | zero => simp [DataW.trod] at hf
  | succ fuel =>
    unfold DataW.trod at hf
    rw [ht.u hu] at hf
    simp only [Value.cells] at hf
    cases a with
    | none =>
      have : len = 0 ∧ cap = 0 := by
        cases len <;> cases cap <;> simp at hf ⊢
      obtain ⟨rfl, rfl⟩ := this
      exact ⟨none, 0, [], rfl, fun h0 => absurd h0 (by simp), by simp, by simp, by simp⟩
    | some a =>
      simp only at hf
      split at hf
      · rename_i hc
        cases hm : (List.range len).mapM fun i => (w.cells? 0 (a.add (i * P.cellsOf e)) (P.cellsOf e)).bind (DataW.trod enc P w 0 spare held fuel e) with
        | none => simp [hm] at hf
        | some ys =>
          rw [cellsOf_of ht hi] at hm
          have hyl : ys.length = len := by simpa using mapM_some_length hm
          have hget : ∀ i, i < len → ∃ y, E.f y = ((List.range E.sz).map fun j => (w.cell? ((a.add (i * E.sz)).add j)).getD undef) ∧ WF y ∧ ∀ j, j < E.sz → w.cell? ((a.add (i * E.sz)).add j) = (E.f y)[j]? := by
            intro i hi'
            have h1 := mapM_some_get hm i i (by simp [hi'])
            rw [List.getElem?_eq_getElem (by omega)] at h1
            obtain ⟨cs, hcs, htr⟩ := Option.bind_eq_some_iff.1 h1
            obtain ⟨_, hl, hcell⟩ := World.cells?_some hcs
            obtain ⟨y, hy, hw⟩ := hE cs (rksP_sound ht d e ks fuel cs _ hk htr)
            subst hy
            refine ⟨y, ?_, hw, hcell⟩
            apply List.ext_getElem?
            intro j
            by_cases hj : j < E.sz
            · rw [List.getElem?_map, List.getElem?_range hj]
              simp only [Option.map_some]
              rw [hcell j hj]
              rw [List.getElem?_eq_getElem (by rw [E.len]; exact hj)]
              rfl
            · rw [List.getElem?_eq_none (by rw [E.len]; omega), List.getElem?_eq_none (by simp; omega)]
          have hall : ∀ n, n ≤ len → ∃ xs : List α, xs.length = n ∧ (∀ y ∈ xs, WF y) ∧ ∀ (i : Nat) (y : α), xs[i]? = some y → ∀ j, j < E.sz → w.cell? ((a.add (i * E.sz)).add j) = (E.f y)[j]? := by
            intro n
            induction n with
            | zero => exact fun _ => ⟨[], rfl, by simp, by simp⟩
            | succ n ih =>
              intro hn
              obtain ⟨xs, hxl, hxw, hxc⟩ := ih (by omega)
              obtain ⟨y, _, hw, hc⟩ := hget n (by omega)
              refine ⟨xs ++ [y], by simp [hxl], fun u hu => ?_, fun i u hu => ?_⟩
              · rcases List.mem_append.1 hu with hu | hu
                · exact hxw u hu
                · simp only [List.mem_singleton] at hu; subst hu; exact hw
              · by_cases hin : i < xs.length
                · rw [List.getElem?_append_left hin] at hu; exact hxc i u hu
                · rw [List.getElem?_append_right (by omega)] at hu
                  have hin0 : i - xs.length = 0 := by
                    have := (List.getElem?_eq_some_iff.1 hu).1
                    simp at this; omega
                  rw [hin0] at hu
                  simp only [List.getElem?_cons_zero, Option.some.injEq] at hu
                  subst hu
                  have : i = n := by omega
                  subst this
                  exact hc
          obtain ⟨xs, hxl, hxw, hxc⟩ := hall len (Nat.le_refl _)
          refine ⟨some a, cap, xs, by rw [hxl], fun _ => ⟨a, rfl, fun i y hy j u hu => ?_⟩, by omega, hc.2.2, hxw⟩
          rw [hxc i y hy j (by rw [← E.len y]; exact (List.getElem?_eq_some_iff.1 hu).1), hu]
      · cases hf
theorem open_rowsN (ht : TabOK P T) {α : Type} (D : ND α) {WF : α → Prop} {r : Reach} {b0 d t e bb : Nat} {z : Value} {ks : List RK} {v : Value} {x : DataW H} {ps : List MemPlace} (hu : find T.und t = some (.slice e)) (hi : find T.inf e = some (D.E.sz, bb, z)) (hk : rksP T d e = some ks)
    (hE : ∀ cs, AreR enc P w spare held ks cs → ∃ y, cs = D.E.f y ∧ (WF (D.val y) ∧ D.inn y w)) (hm : ∀ y, D.inn y w → Ft (D.inn y) w (fun _ => 0) 0) (hval : Value.okWide P w r b0 t v) (h : DataW.Trod enc P w 0 spare held t v x ps) :
    ∃ (A : Option Addr) (c : Nat) (xs : List α), v = .slice A xs.length c ∧ NRd D A xs w (fun _ => 0) 0 0 ∧ xs.length ≤ c ∧ c ≤ maxLen ∧ ∀ y ∈ xs, WF y := by
  obtain ⟨A, c, g, rfl, hr, h1, h2, h3⟩ := open_rowsR (E := D.E) (WF := fun y => WF (D.val y) ∧ D.inn y w) ht hu hi hk hE hval h
  refine ⟨A, c, g.map D.val, by rw [List.length_map], ⟨g, rfl, hr.ft, fun w' hw y hy => (hm y (h3 y hy).2) w' hw⟩, by rw [List.length_map]; exact h1, h2, fun y hy => ?_⟩
  obtain ⟨r, hr, rfl⟩ := List.mem_map.1 hy
  exact (h3 r hr).1
end
end Go.Proofs.XC

set_option linter.unusedSimpArgs false
set_option linter.unusedVariables false
namespace Go.Proofs.XC
open Go

/-! ### A row of rows of which the last one is own -/
section
variable {P : Program} {T : Tab} {w w' : World} {o o' : Nat → Nat} {L L' F F' X X' : Nat} {M : List Nat} {β : Type} {E : Enc β} {et it : TypeId} {A : Option Addr} {c : Nat} {xs : List (List β)}
def NLast {β : Type} (E : Enc β) (et it : TypeId) (A : Option Addr) (c : Nat) (xs : List (List β)) (w : World) (o : Nat → Nat) (L F X : Nat) : Prop :=
  ∃ (g : List (NR β)) (r : NR β), xs = (g ++ [r]).map (fun r => r.x) ∧ Ft (Own (dRows E).E et (.slice A xs.length c) (g ++ [r])) w o L ∧ Ft (Inn (dRows E) g) w o F ∧ Ft (Own E it (.slice r.A r.x.length r.c) r.x) w o X
/-- Its last element's row taken out. -/
def NHole {β : Type} (E : Enc β) (et : TypeId) (A : Option Addr) (c : Nat) (xs : List (List β)) (w : World) (o : Nat → Nat) (L F : Nat) : Prop :=
  ∃ (g : List (NR β)) (r : NR β), xs = (g ++ [r]).map (fun r => r.x) ∧ Ft (Own (dRows E).E et (.slice A xs.length c) (g ++ [r])) w o L ∧ Ft (Inn (dRows E) g) w o F
theorem NLast.conv (h : NLast E et it A c xs w o L F X) (h1 : ∀ P : World → Prop, Ft P w o L → Ft P w' o' L') (h2 : ∀ P : World → Prop, Ft P w o F → Ft P w' o' F') (h3 : ∀ P : World → Prop, Ft P w o X → Ft P w' o' X') : NLast E et it A c xs w' o' L' F' X' := by
  obtain ⟨g, r, e1, e2, e3, e4⟩ := h
  exact ⟨g, r, e1, h1 _ e2, h2 _ e3, h3 _ e4⟩
theorem NHole.conv (h : NHole E et A c xs w o L F) (h1 : ∀ P : World → Prop, Ft P w o L → Ft P w' o' L') (h2 : ∀ P : World → Prop, Ft P w o F → Ft P w' o' F') : NHole E et A c xs w' o' L' F' := by
  obtain ⟨g, r, e1, e2, e3⟩ := h
  exact ⟨g, r, e1, h1 _ e2, h2 _ e3⟩
theorem NLast.st (h : NLast E et it A c xs w o L F X) (s : St M w o w' o') (hL : L ∉ M ∧ F ∉ M ∧ X ∉ M) : NLast E et it A c xs w' o' L F X := h.conv (fun _ f => f.st s hL.1) (fun _ f => f.st s hL.2.1) (fun _ f => f.st s hL.2.2)
theorem NHole.st (h : NHole E et A c xs w o L F) (s : St M w o w' o') (hL : L ∉ M ∧ F ∉ M) : NHole E et A c xs w' o' L F := h.conv (fun _ f => f.st s hL.1) (fun _ f => f.st s hL.2)
theorem NLast.relab (h : NLast E et it A c xs w o L F X) (r : Nat → Nat) (hr : (r L, r F, r X) = (L', F', X')) : NLast E et it A c xs w (fun b => r (o b)) L' F' X' := by
  have h1 := (Prod.mk.inj hr).1
  have h2 := (Prod.mk.inj (Prod.mk.inj hr).2).1
  have h3 := (Prod.mk.inj (Prod.mk.inj hr).2).2
  exact h.conv (fun _ f => f.relab r h1) (fun _ f => f.relab r h2) (fun _ f => f.relab r h3)
/-- All of its rows frozen: the own one's label is that of what is frozen. -/
theorem NLast.freeze (h : NLast E et it A c xs w o L F F) : NOwn (dRows E) et A c xs w o L F := by
  obtain ⟨g, r, e1, e2, e3, e4⟩ := h
  exact ⟨g ++ [r], e1, e2, (e3.and e4).imp fun W hW q hq => by
    rcases List.mem_append.1 hq with hq | hq
    · exact hW.1 q hq
    · obtain rfl := List.mem_singleton.1 hq
      exact ⟨Own.rd hW.2, (Own.cap hW.2).2⟩⟩
theorem NLast.len (h : NLast E et it A c xs w o L F X) : 1 ≤ xs.length := by
  obtain ⟨g, r, rfl, _⟩ := h
  simp
theorem NLast.cap (h : NLast E et it A c xs w o L F X) : xs.length ≤ c := by
  obtain ⟨g, r, e1, e2, e3, e4⟩ := h
  exact (Own.cap e2.now).2
theorem NLast.addr (h : NLast E et it A c xs w o L F X) : ∃ ad, A = some ad := by
  obtain ⟨g, r, e1, e2, e3, e4⟩ := h
  exact RdC.addr (i := 0) (Own.rd e2.now) (show (0 : Int) ≤ 0 ∧ (0 : Int) < (((g ++ [r] : List (NR β))).length : Int) from by rw [List.length_append]; simp only [List.length_cons, List.length_nil]; omega)
/-- Its last element is loaded. -/
theorem NLast.open {ad : Addr} (h : NLast E et it (some ad) c xs w o L F X) (ht : TabOK P T) {t : TypeId} (ha : aggT T t = some false) {i : Int} (hi : 0 ≤ i ∧ i + 1 = (xs.length : Int)) :
    ∃ A' c', Ft (fun W => LoadIs P t (ad.add (i.toNat * 1)) (.slice A' (rdD [] xs i).length c') W) w o L ∧ Ft (Own E it (.slice A' (rdD [] xs i).length c') (rdD [] xs i)) w o X ∧ (rdD [] xs i).length ≤ c' ∧ NHole E et (some ad) c xs w o L F := by
  obtain ⟨g, r, e1, e2, e3, e4⟩ := h
  have hl : xs.length = g.length + 1 := by rw [e1]; simp
  have hig : i.toNat = g.length := by omega
  have hv : rdD [] xs i = r.x := by
    rw [rdD_at [] _ (i := i.toNat) (by omega) (by omega)]
    simp only [e1, hig, List.map_append, List.map_cons, List.map_nil]
    rw [List.getElem_append_right (by simp)]
    simp
  rw [hv]
  refine ⟨r.A, r.c, e2.imp fun W hW => ?_, e4, (Own.cap e4.now).2, g, r, e1, e2, e3⟩
  have hd : rdD (⟨none, 0, []⟩ : NR β) (g ++ [r]) i = r := by
    rw [rdD_at _ _ (i := i.toNat) (by omega) (by simp; omega)]
    simp only [hig]
    rw [List.getElem_append_right (Nat.le_refl _)]
    simp
  have := RdC.at (d := (⟨none, 0, []⟩ : NR β)) (Own.rd hW) (i := i) (show 0 ≤ i ∧ i < (((g ++ [r] : List (NR β))).length : Int) from by rw [List.length_append]; simp only [List.length_cons, List.length_nil]; omega) (j := 0) (v := .slice r.A r.x.length r.c) (by rw [hd]; rfl)
  refine load1 ht ha ?_
  rw [← this]
  congr 1
theorem NLast.lit {b el : Nat} {cs : List Value} (hb : Ft (Bx b el cs) w o L) (r : NR β) (hc : cs = [.slice r.A r.x.length r.c]) (hr : Ft (Own E it (.slice r.A r.x.length r.c) r.x) w o X) (F : Nat) : NLast E el it (some ⟨b, 0, none⟩) 1 [r.x] w o L F X :=
  ⟨[], r, rfl, hb.imp fun _ h_ => Own.of_box (E := (dRows E).E) (xs := [r]) h_ (by rw [hc]; rfl) (show (1 : Nat) ≤ 9223372036854775807 from by omega), Ft.of_all (fun _ q hq => by cases hq) _ _ _, hr⟩
end
/-! ### Its operations -/
section
variable {ρ' : Option Nat} {ds : List Deferred} {P : Program} {T : Tab} {n : Nat} {a : Act} {e : Env} {w w' W : World} {o o' : Nat → Nat} {L L' F X : Nat} {M : List Nat} {Q : Exit → Act → World → Prop} {K : Act → World → Prop}
  {d : Option Tmp} {ty : TypeId} {pos : String} {af : Array Edge} {gd : Option (Nat × Bool)} {β : Type} {E : Enc β} {et it : TypeId} {A : Option Addr} {c : Nat} {xs : List (List β)}
theorem set_last {α : Type} (g : List α) (r v : α) : (g ++ [r]).set g.length v = g ++ [v] := by
  induction g with
  | nil => rfl
  | cons q g ih => rw [List.cons_append, List.length_cons, List.set_cons_succ, ih]; rfl
theorem op_appendLast (ht : TabOK P T) (hk : KnD n ds a e) {t el el2 bytes : Nat} {z : Value} {s x : Operand} {A2 : Option Addr} {c2 L2 : Nat} {y : List β}
    (hu : find T.und t = some (.slice el)) (hi : find T.inf el = some (1, bytes, z)) (hzs : z.cells.size = 1) (hby : Nat.ble bytes 100000 = true)
    (hs : evo e s = some (.slice A xs.length c)) (hx : evo e x = some (.slice A2 1 c2)) (hown : NOwn (dRows E) el A c xs w o L F) (hlit : NLast E el2 it A2 c2 [y] w o L2 F X) (hF : F ≠ L ∧ X ≠ L) (hlim : xs.length + 1 ≤ 1000000000)
    (h : ∀ A c w' o', St [L] w o w' o' → NLast E el it A c (xs ++ [y]) w' o' L F X → (xs ++ [y]).length ≤ c → K (a.put d (.slice A (xs ++ [y]).length c)) w') :
    (Oper.mk d (.call { callee := .builtin .append, args := #[s, x], argTypes := #[t, t] }) ty pos af gd).wpIn (WF ρ') 0 P a w K Q := by
  obtain ⟨g1, a1, a2, a3⟩ : ∃ g : List (NR β), xs = g.map (fun r => r.x) ∧ Ft (Own (dRows E).E el (.slice A xs.length c) g) w o L ∧ Ft (Inn (dRows E) g) w o F := hown
  obtain ⟨g2, r, b1, b2, b3, b4⟩ := hlit
  have hg2 : g2 = [] := by
    have := congrArg List.length b1
    simp only [List.length_cons, List.length_nil, List.length_map, List.length_append] at this
    exact List.eq_nil_of_length_eq_zero (by omega)
  subst hg2
  have hy : y = r.x := by simpa using b1
  subst hy
  have l1 : xs.length = g1.length := by rw [a1, List.length_map]
  refine op_append (o := o) (E := (dRows E).E) (xs := g1) (ys := [r]) ht hk hu hi hzs rfl hby hs hx a2 (Own.rd b2.now) (show g1.length + 1 ≤ 1000000000 from by omega) fun A c w' o' hst hft hc => ?_
  have e1 : (xs ++ [r.x]).length = (g1 ++ [r]).length := by simp only [List.length_append, List.length_cons, List.length_nil]; omega
  have hF' : F ∉ [L] := by simp [hF.1]
  have hX' : X ∉ [L] := by simp [hF.2]
  have hh := h A c w' o' hst ⟨g1, r, by rw [a1, List.map_append]; rfl, by rw [e1]; exact hft, a3.st hst hF', b4.st hst hX'⟩ (by rw [e1]; exact hc)
  rw [e1] at hh
  exact hh
theorem op_storeLast (ht : TabOK P T) (hk : KnD n ds a e) {t bb : Nat} {z : Value} {x y : Operand} {ad : Addr} {A2 : Option Addr} {c2 : Nat} {ys : List β} {i : Int}
    (hi : find T.inf t = some (1, bb, z)) (hx : evo e x = some (.pointer (some (ad.add (i.toNat * 1))))) (hy : evo e y = some (.slice A2 ys.length c2)) (hole : NHole E et (some ad) c xs w o L F) (own : Ft (Own E it (.slice A2 ys.length c2) ys) w o X) (hin : 0 ≤ i ∧ i + 1 = (xs.length : Int)) (hF : F ≠ L ∧ X ≠ L)
    (h : ∀ w' o', St [L] w o w' o' → NLast E et it (some ad) c (xs.set i.toNat ys) w' o' L F X → K (a.put d undef) w') :
    (Oper.mk d (.store t x y) ty pos af gd).wpIn (WF ρ') 0 P a w K Q := by
  obtain ⟨g, r, e1, e2, e3⟩ := hole
  have hl : xs.length = (g ++ [r]).length := by rw [e1, List.length_map]
  have hl2 : xs.length = g.length + 1 := by rw [hl]; simp
  have hig : i.toNat = g.length := by omega
  rw [hl] at e2
  have hset : (g ++ [r]).set i.toNat (⟨A2, c2, ys⟩ : NR β) = g ++ [⟨A2, c2, ys⟩] := by
    rw [hig]; exact set_last g r _
  refine op_storeO (o := o) (E := (dRows E).E) (i := i) (j := 0) (dx := (⟨none, 0, []⟩ : NR β)) (y' := (⟨A2, c2, ys⟩ : NR β)) ht hk hi hx hy e2 (by simp [Addr.add, dRows]) (show 0 ≤ i ∧ i < (((g ++ [r] : List (NR β))).length : Int) from by rw [← hl]; omega) rfl rfl rfl rfl fun w' o' hst hf => ?_
  have hf : Ft (Own (dRows E).E et (.slice (some ad) ((g ++ [r]).set i.toNat (⟨A2, c2, ys⟩ : NR β)).length c) ((g ++ [r]).set i.toNat (⟨A2, c2, ys⟩ : NR β))) w' o' L := hf
  rw [hset] at hf
  have hF' : F ∉ [L] := by simp [hF.1]
  have hX' : X ∉ [L] := by simp [hF.2]
  have hxs : xs.set i.toNat ys = (g ++ [(⟨A2, c2, ys⟩ : NR β)]).map (fun r => r.x) := by
    rw [← hset, List.map_set, ← e1]
  have hle : (xs.set i.toNat ys).length = (g ++ [(⟨A2, c2, ys⟩ : NR β)]).length := by rw [hxs, List.length_map]
  exact h w' o' hst ⟨g, ⟨A2, c2, ys⟩, hxs, by rw [hle]; exact hf, e3.st hst hF', own.st hst hX'⟩
end
end Go.Proofs.XC

set_option linter.unusedSimpArgs false
set_option linter.unusedVariables false
namespace Go.Proofs.XC
open Go
section
variable {w : World} {o : Nat → Nat} {L F X : Nat} {β : Type} {E : Enc β} {et it : TypeId} {A : Option Addr} {c : Nat} {xs : List (List β)}
theorem last_ix {n : Nat} {i : Int} (hi : i = IntKind.wrap .i64 ((n : Int) - 1)) (h1 : 1 ≤ n) (h2 : n ≤ 9223372036854775807) : 0 ≤ i ∧ i + 1 = (n : Int) := by
  rw [hi, w64 (by omega) (by omega)]; omega
theorem Own.small {α : Type} {E : Enc α} {t : TypeId} {A : Option Addr} {k c : Nat} {xs : List α} {w : World} (h : Own E t (.slice A k c) xs w) : k ≤ 9223372036854775807 := by
  obtain ⟨A', c', e, h1, h2⟩ := h.shape
  injection e with e1 e2 e3
  omega
theorem NLast.ix (h : NLast E et it A c xs w o L F X) {i : Int} (hi : i = IntKind.wrap .i64 ((xs.length : Int) - 1)) : 0 ≤ i ∧ i + 1 = (xs.length : Int) := by
  obtain ⟨g, r, e1, e2, e3, e4⟩ := h
  exact last_ix hi (by rw [e1]; simp) (Own.small e2.now)
theorem NHole.ix (h : NHole E et A c xs w o L F) {i : Int} (hi : i = IntKind.wrap .i64 ((xs.length : Int) - 1)) : 0 ≤ i ∧ i + 1 = (xs.length : Int) := by
  obtain ⟨g, r, e1, e2, e3⟩ := h
  exact last_ix hi (by rw [e1]; simp) (Own.small e2.now)
end
end Go.Proofs.XC

set_option linter.unusedSimpArgs false
set_option linter.unusedVariables false
namespace Go.Proofs.XC
open Go Go.MapKept

/-! ### Maps with int keys: lists of what was laid, in its order -/
section
variable {β : Type}
def mfind : List (Int × β) → Int → Option β
  | [], _ => none
  | p :: l, k => if p.1 = k then some p.2 else mfind l k
def mput : List (Int × β) → Int → β → List (Int × β)
  | [], k, v => [(k, v)]
  | p :: l, k, v => if p.1 = k then (k, v) :: l else p :: mput l k v
def mdel : List (Int × β) → Int → List (Int × β)
  | [], _ => []
  | p :: l, k => if p.1 = k then l else p :: mdel l k
theorem mfind_none : ∀ {l : List (Int × β)} {k : Int}, (∀ p ∈ l, p.1 ≠ k) → mfind l k = none
  | [], _, _ => rfl
  | p :: l, k, h => by rw [mfind, if_neg (h p (by simp)), mfind_none fun q hq => h q (by simp [hq])]
theorem mfind_at : ∀ {l : List (Int × β)} {k : Int} {j : Nat} {x : β}, (l.map (·.1)).Nodup → l[j]? = some (k, x) → mfind l k = some x
  | [], _, _, _, _, h => by simp at h
  | p :: l, k, 0, x, _, h => by
    simp only [List.getElem?_cons_zero, Option.some.injEq] at h
    subst h
    rw [mfind, if_pos rfl]
  | p :: l, k, j + 1, x, hn, h => by
    simp only [List.getElem?_cons_succ] at h
    simp only [List.map_cons, List.nodup_cons] at hn
    have hne : p.1 ≠ k := fun e => hn.1 (by rw [e]; exact List.mem_map.2 ⟨_, List.mem_of_getElem? h, rfl⟩)
    rw [mfind, if_neg hne, mfind_at hn.2 h]
theorem mput_none : ∀ {l : List (Int × β)} {k : Int} {v : β}, (∀ p ∈ l, p.1 ≠ k) → mput l k v = l ++ [(k, v)]
  | [], _, _, _ => rfl
  | p :: l, k, v, h => by rw [mput, if_neg (h p (by simp)), mput_none fun q hq => h q (by simp [hq])]; rfl
theorem mput_at : ∀ {l : List (Int × β)} {k : Int} {j : Nat} {x v : β}, (l.map (·.1)).Nodup → l[j]? = some (k, x) → mput l k v = l.set j (k, v)
  | [], _, _, _, _, _, h => by simp at h
  | p :: l, k, 0, x, v, _, h => by
    simp only [List.getElem?_cons_zero, Option.some.injEq] at h
    subst h
    rw [mput, if_pos rfl]; rfl
  | p :: l, k, j + 1, x, v, hn, h => by
    simp only [List.getElem?_cons_succ] at h
    simp only [List.map_cons, List.nodup_cons] at hn
    have hne : p.1 ≠ k := fun e => hn.1 (by rw [e]; exact List.mem_map.2 ⟨_, List.mem_of_getElem? h, rfl⟩)
    rw [mput, if_neg hne, mput_at hn.2 h]; rfl
theorem mdel_none : ∀ {l : List (Int × β)} {k : Int}, (∀ p ∈ l, p.1 ≠ k) → mdel l k = l
  | [], _, _ => rfl
  | p :: l, k, h => by rw [mdel, if_neg (h p (by simp)), mdel_none fun q hq => h q (by simp [hq])]
theorem mdel_at : ∀ {l : List (Int × β)} {k : Int} {j : Nat} {x : β}, (l.map (·.1)).Nodup → l[j]? = some (k, x) → mdel l k = l.eraseIdx j
  | [], _, _, _, _, h => by simp at h
  | p :: l, k, 0, x, _, h => by
    simp only [List.getElem?_cons_zero, Option.some.injEq] at h
    subst h
    rw [mdel, if_pos rfl]; rfl
  | p :: l, k, j + 1, x, hn, h => by
    simp only [List.getElem?_cons_succ] at h
    simp only [List.map_cons, List.nodup_cons] at hn
    have hne : p.1 ≠ k := fun e => hn.1 (by rw [e]; exact List.mem_map.2 ⟨_, List.mem_of_getElem? h, rfl⟩)
    rw [mdel, if_neg hne, mdel_at hn.2 h]; rfl
end
theorem eraseIdx_map' {γ δ : Type} (f : γ → δ) : ∀ (l : List γ) (i : Nat), (l.map f).eraseIdx i = (l.eraseIdx i).map f
  | [], i => by simp
  | x :: l, 0 => rfl
  | x :: l, i + 1 => by simp only [List.map_cons, List.eraseIdx_cons_succ, eraseIdx_map' f l i]
/-- A map, or nil. -/
structure M (β : Type) where
  l : Option (List (Int × β))
namespace M
variable {β γ : Type}
def nil : M β := ⟨none⟩
def new : M β := ⟨some []⟩
def es (m : M β) : List (Int × β) := m.l.getD []
def length (m : M β) : Nat := m.es.length
def isNil (m : M β) : Bool := m.l.isNone
def has (m : M β) (k : Int) : Bool := (mfind m.es k).isSome
def get (z : β) (m : M β) (k : Int) : β := (mfind m.es k).getD z
def put (m : M β) (k : Int) (v : β) : M β := ⟨some (mput m.es k v)⟩
def del (m : M β) (k : Int) : M β := ⟨m.l.map (mdel · k)⟩
def wipe (m : M β) : M β := ⟨m.l.map fun _ => []⟩
def map (f : β → γ) (m : M β) : M γ := ⟨m.l.map fun l => l.map fun p => (p.1, f p.2)⟩
end M
/-- An element's value. -/
def ev {β : Type} (E : Enc β) (ag : Bool) (x : β) : Value := bif ag then .agg (E.f x).toArray else ((E.f x)[0]?).getD undef
def mv (A : Option Addr) : Value := .map (A.map (·.block))
def MapAt {β : Type} (fv : β → Value) (b : Nat) (l : List (Int × β)) (w : World) : Prop :=
  ∃ (es : Array MapEntry) (ck : Nat), w.heap[b]? = some (.map es ck) ∧ Stamped es ck ∧ es.toList.map (fun e => (e.key, e.val)) = l.map (fun p => (Value.int .i64 p.1, fv p.2))
/-- The map at A (nil, or a block). -/
def MpF {β : Type} (E : Enc β) (ag : Bool) (A : Option Addr) (m : M β) (w : World) : Prop :=
  (A = none ∧ m = M.nil) ∨ ∃ b l, A = some ⟨b, 0, none⟩ ∧ m = ⟨some l⟩ ∧ MapAt (ev E ag) b l w
section
variable {β : Type} {fv : β → Value} {b : Nat} {l : List (Int × β)} {es : Array MapEntry} {ck : Nat}
theorem ents_at (he : es.toList.map (fun e => (e.key, e.val)) = l.map (fun p => (Value.int .i64 p.1, fv p.2))) {j : Nat} {e : MapEntry} (h : es[j]? = some e) : ∃ k x, l[j]? = some (k, x) ∧ e.key = .int .i64 k ∧ e.val = fv x := by
  have h1 : (es.toList.map (fun e => (e.key, e.val)))[j]? = some (e.key, e.val) := by simp [h]
  rw [he, List.getElem?_map] at h1
  cases hl : l[j]? with
  | none => rw [hl] at h1; cases h1
  | some p =>
    rw [hl] at h1
    simp only [Option.map_some, Option.some.injEq, Prod.mk.injEq] at h1
    exact ⟨p.1, p.2, rfl, h1.1.symm, h1.2.symm⟩
theorem ents_keys (he : es.toList.map (fun e => (e.key, e.val)) = l.map (fun p => (Value.int .i64 p.1, fv p.2))) : ∀ x ∈ es.toList, IsKey (.int .i64) x.key := by
  intro x hx
  obtain ⟨j, hj⟩ := List.getElem?_of_mem hx
  obtain ⟨k, y, _, h2, _⟩ := ents_at he (by simpa using hj)
  rw [h2]; rfl
theorem ents_nodup (hs : Stamped es ck) (he : es.toList.map (fun e => (e.key, e.val)) = l.map (fun p => (Value.int .i64 p.1, fv p.2))) : (l.map (·.1)).Nodup := by
  have h1 := hs.2.2
  have h2 : es.toList.map (·.key) = (l.map (·.1)).map (fun k => Value.int .i64 k) := by
    have := congrArg (List.map Prod.fst) he
    simpa [List.map_map, Function.comp_def] using this
  rw [h2] at h1
  exact (List.pairwise_map.1 h1).imp fun h e => h (by rw [e])
theorem ents_find (hs : Stamped es ck) (he : es.toList.map (fun e => (e.key, e.val)) = l.map (fun p => (Value.int .i64 p.1, fv p.2))) (k : Int) :
    (Instr.findNow (.int .i64) (.int .i64 k) es.toList 0 = some none ∧ (∀ x ∈ es.toList, x.key ≠ .int .i64 k) ∧ (∀ p ∈ l, p.1 ≠ k)) ∨
    ∃ j e x, Instr.findNow (.int .i64) (.int .i64 k) es.toList 0 = some (some (j, fv x)) ∧ es[j]? = some e ∧ e.key = .int .i64 k ∧ l[j]? = some (k, x) := by
  rcases findNow_spec (d := .int .i64) (k := .int .i64 k) rfl es.toList 0 (ents_keys he) with ⟨h1, h2⟩ | ⟨j, e, h1, h2, h3⟩
  · refine .inl ⟨h1, h2, fun p hp => ?_⟩
    obtain ⟨j, hj⟩ := List.getElem?_of_mem hp
    have h4 : (es.toList.map (fun e => (e.key, e.val)))[j]? = some (Value.int .i64 p.1, fv p.2) := by rw [he]; simp [hj]
    rw [List.getElem?_map] at h4
    cases hl : es.toList[j]? with
    | none => rw [hl] at h4; cases h4
    | some e =>
      rw [hl] at h4
      simp only [Option.map_some, Option.some.injEq, Prod.mk.injEq] at h4
      intro e2
      exact h2 e (List.mem_of_getElem? hl) (by rw [h4.1, e2])
  · have h4 : es[j]? = some e := by simpa using h2
    obtain ⟨k', x, h5, h6, h7⟩ := ents_at he h4
    rw [h3] at h6
    injection h6 with _ h6
    subst h6
    exact .inr ⟨j, e, x, by rw [h1, h7, Nat.zero_add], h4, h3, h5⟩
end
section
variable {ρ : Option Nat} {ds : List Deferred} {P : Program} {T : Tab} {n : Nat} {a : Act} {e : Env} {w w' : World} {o o' : Nat → Nat} {L : Nat} {Q : Exit → Act → World → Prop} {K : Act → World → Prop}
  {d : Option Tmp} {ty : TypeId} {pos : String} {af : Array Edge} {gd : Option (Nat × Bool)} {β : Type} {E : Enc β} {ag : Bool} {A : Option Addr} {m : M β}
theorem MpF.nil (E : Enc β) (ag : Bool) (w : World) : MpF E ag none M.nil w := .inl ⟨rfl, rfl⟩
theorem MpF.nul (h : MpF E ag A m w) : A.isNone = m.isNil := by
  rcases h with ⟨rfl, rfl⟩ | ⟨b, l, rfl, rfl, _⟩ <;> rfl
theorem run_lookup (ht : TabOK P T) {mt kt et s bb : Nat} {z : Value} {zx : β} (hm : find T.und mt = some (.map kt et)) (hkt : find T.und kt = some (.int .i64)) (hz : find T.inf et = some (s, bb, z)) (hzx : z = ev E ag zx) (h : MpF E ag A m w) (k : Int) (ok : Bool) :
    (Instr.lookup mt (mv A) (.int .i64 k) ok).run P w = .ok (if ok then .tuple #[ev E ag (m.get zx k), .bool (m.has k)] else ev E ag (m.get zx k)) w := by
  have hm' := ht.u hm
  have hk' := ht.u hkt
  have hz' := run_zeroValue' (w := w) ht hz
  have hck := fun (e : Bool) => run_checkKey (w := w) hk' (k := .int .i64 k) rfl e 9999
  rcases h with ⟨rfl, rfl⟩ | ⟨b, l, rfl, rfl, es, ck, hb, hs, he⟩
  · have hf := run_findKey (w := w) (P := P) (kt := kt) (k := .int .i64 k) (l := []) (a := none) hk' rfl
    subst hzx
    cases ok <;> simp [Instr.lookup, mv, run_underlying hm', hck, hf, hz', M.get, M.has, M.es, M.nil, mfind, Result.andThen]
  · rcases ents_find hs he k with ⟨h1, h2, h3⟩ | ⟨j, e, x, h1, h2, h3, h4⟩
    · have hf := run_findKey (w := w) (P := P) hk' h1
      subst hzx
      cases ok <;> simp [Instr.lookup, mv, run_underlying hm', MapKept.run_getObj_map hb, hck, hf, hz', M.get, M.has, M.es, mfind_none h3, Result.andThen]
    · have hf := run_findKey (w := w) (P := P) hk' h1
      cases ok <;> simp [Instr.lookup, mv, run_underlying hm', MapKept.run_getObj_map hb, hck, hf, M.get, M.has, M.es, mfind_at (ents_nodup hs he) h4, Result.andThen]
theorem ask_look (ht : TabOK P T) {mt kt et s bb : Nat} {z : Value} {zx : β} (hm : find T.und mt = some (.map kt et)) (hkt : find T.und kt = some (.int .i64)) (hz : find T.inf et = some (s, bb, z)) (hzx : z = ev E ag zx) (h : MpF E ag A m w) {k : Int}
    {x y : Operand} (hx : evo e x = some (mv A)) (hy : evo e y = some (.int .i64 k)) : AskIs P e (Oper.mk d (.lookup mt x y true) ty pos af gd) (.tuple #[ev E ag (m.get zx k), .bool (m.has k)]) w := by
  intro ρ hρ
  have := run_lookup ht hm hkt hz hzx h k true
  simp only [if_true] at this
  simp [execOp, hρ _ _ hx, hρ _ _ hy, this]
theorem ask_look1 (ht : TabOK P T) {mt kt et s bb : Nat} {z : Value} {zx : β} (hm : find T.und mt = some (.map kt et)) (hkt : find T.und kt = some (.int .i64)) (hz : find T.inf et = some (s, bb, z)) (hzx : z = ev E ag zx) (h : MpF E ag A m w) {k : Int}
    {x y : Operand} (hx : evo e x = some (mv A)) (hy : evo e y = some (.int .i64 k)) : AskIs P e (Oper.mk d (.lookup mt x y false) ty pos af gd) (ev E ag (m.get zx k)) w := by
  intro ρ hρ
  have := run_lookup ht hm hkt hz hzx h k false
  simp only [Bool.false_eq_true, if_false] at this
  simp [execOp, hρ _ _ hx, hρ _ _ hy, this]
theorem MapAt.len {fv : β → Value} {b : Nat} {l : List (Int × β)} {es : Array MapEntry} (he : es.toList.map (fun e => (e.key, e.val)) = l.map (fun p => (Value.int .i64 p.1, fv p.2))) : es.size = l.length := by
  have := congrArg List.length he
  simpa using this
theorem ask_mlen (ht : TabOK P T) {mt kt et : Nat} (hm : find T.und mt = some (.map kt et)) (h : MpF E ag A m w) {x : Operand} (hx : evo e x = some (mv A)) :
    AskIs P e (Oper.mk d (.call { callee := .builtin .len, args := #[x], argTypes := #[mt] }) ty pos af gd) (.int .i64 (m.length : Int)) w := by
  intro ρ hρ
  have hm' := ht.u hm
  have hu := run_underlying' (w := w) hm'
  rcases h with ⟨rfl, rfl⟩ | ⟨b, l, rfl, rfl, es, ck, hb, hs, he⟩
  · simp [execOp, resolve, invoke, builtin, Builtin.len_, hρ _ _ hx, hu, mv, goInt, M.length, M.nil, M.es]
  · simp [execOp, resolve, invoke, builtin, Builtin.len_, hρ _ _ hx, hu, mv, goInt, M.length, M.es, MapKept.run_getObj_map hb, MapAt.len (b := b) he]
theorem ask_mnil (ht : TabOK P T) {mt kt et : Nat} (hm : find T.und mt = some (.map kt et)) (h : MpF E ag A m w) {x : Operand} (hx : evo e x = some (mv A)) :
    AskIs P e (Oper.mk d (.binOp .eql mt x (.const (.map none)) mt) ty pos af gd) (.bool m.isNil) w := by
  intro ρ hρ
  have hu := run_underlying' (w := w) (ht.u hm)
  rw [← h.nul]
  have hc := hρ (.const (.map none)) (.map none) rfl
  have he : (Op.equal mt (mv A) (.map none)).run P w = .ok A.isNone w := by
    refine equal_of fun n => ?_
    cases A <;> simp [Op.equalIn, hu, mv]
  have := run_eq_of (x := x) (y := .const (.map none)) ⟨rfl, rfl⟩ he
  simp only [execOp, hρ _ _ hx, hc]
  simp only [Sem.run_bind] at this ⊢
  simp [this]
/-! ### A map is made, written, cleared -/
theorem MapAt.kept {fv : β → Value} {b : Nat} {l : List (Int × β)} (h : MapAt fv b l w) (hk : w'.heap[b]? = w.heap[b]?) : MapAt fv b l w' := by
  obtain ⟨es, ck, hb, r⟩ := h
  exact ⟨es, ck, hk.trans hb, r⟩
theorem MapAt.lt {fv : β → Value} {b : Nat} {l : List (Int × β)} (h : MapAt fv b l w) : b < w.heap.size := by
  obtain ⟨es, ck, hb, r⟩ := h
  exact (Array.getElem?_eq_some_iff.1 hb).1
theorem MpF.ft {b : Nat} {l : List (Int × β)} (h : MapAt (ev E ag) b l w) (hL : o b = L) : Ft (MpF E ag (some ⟨b, 0, none⟩) ⟨some l⟩) w o L := fun w' hw => .inr ⟨b, l, rfl, rfl, h.kept (hw b hL h.lt)⟩
theorem MpF.lab {b : Nat} (h : Ft (MpF E ag (some ⟨b, 0, none⟩) m) w o L) : o b = L := by
  by_cases ho : o b = L
  · exact ho
  · exfalso
    obtain ⟨b', l, hA, hm, hat⟩ : ∃ b' l, (some (⟨b, 0, none⟩ : Addr)) = some ⟨b', 0, none⟩ ∧ m = ⟨some l⟩ ∧ MapAt (ev E ag) b' l w := by
      rcases h.now with ⟨hA, _⟩ | h
      · cases hA
      · exact h
    have hbb : b = b' := by injection hA with hA; injection hA
    subst hbb
    have hlt := hat.lt
    have h2 := h { w with heap := w.heap.setIfInBounds b (.cells #[] 0) } fun c hc _ => by
      have : c ≠ b := fun e => ho (by rw [← e]; exact hc)
      simp [Array.getElem?_setIfInBounds, Ne.symm this]
    rcases h2 with ⟨hA, _⟩ | ⟨b2, l2, hA, _, es, ck, hb, _⟩
    · cases hA
    · have : b = b2 := by injection hA with hA; injection hA
      subst this
      simp [hlt] at hb
theorem op_mmake {t : Nat} {r : Option Operand} (hr : r = none) (E : Enc β) (ag : Bool) (L : Nat)
    (h : ∀ b w' o', St [] w o w' o' → Ft (MpF E ag (some ⟨b, 0, none⟩) (M.new : M β)) w' o' L → K (a.put d (mv (some ⟨b, 0, none⟩))) w') :
    (Oper.mk d (.makeMap t r) ty pos af gd).wpIn (WF ρ) 0 P a w K Q := by
  subst hr
  refine op_of_run (v := .map (some w.heap.size)) (w' := w.alloc (.map #[] 0)) ?_ (h w.heap.size _ _ (St.alloc [] w o _ L) (MpF.ft ⟨#[], 0, heap_alloc_new w _, stamped_empty 0, rfl⟩ (by simp [newLab])))
  simp [execOp, Instr.makeMap, Result.andThen]
theorem setb_st {b : Nat} {ob ob' : Obj} (hb : w.heap[b]? = some ob) (hL : o b = L) : St [L] w o { w with heap := w.heap.setIfInBounds b ob' } o :=
  ⟨rfl, rfl, rfl, by simp, fun _ _ _ => rfl, fun c _ hc => by
    have : c ≠ b := fun e => hc (by rw [e, hL]; simp)
    simp [Array.getElem?_setIfInBounds, Ne.symm this]⟩
theorem map_set {γ δ : Type} (f : γ → δ) (l : List γ) (i : Nat) (x : γ) : (l.set i x).map f = (l.map f).set i (f x) := List.map_set
theorem op_mput (ht : TabOK P T) (hk : KnD n ds a e) {mt kt et : Nat} {x y z : Operand} {k : Int} {v : β}
    (hm : find T.und mt = some (.map kt et)) (hkt : find T.und kt = some (.int .i64)) (hx : evo e x = some (mv A)) (hy : evo e y = some (.int .i64 k)) (hz : evo e z = some (ev E ag v)) (hf : Ft (MpF E ag A m) w o L) (hn : m.isNil = false)
    (h : ∀ w', St [L] w o w' o → Ft (MpF E ag A (m.put k v)) w' o L → K (a.put d undef) w') :
    (Oper.mk d (.mapUpdate mt x y z) ty pos af gd).wpIn (WF ρ) 0 P a w K Q := by
  have hm' := ht.u hm
  have hk' := ht.u hkt
  have hck := fun (e : Bool) => run_checkKey (w := w) hk' (k := .int .i64 k) rfl e 9999
  rcases hf.now with ⟨_, rfl⟩ | ⟨b, l, rfl, rfl, es, ck, hb, hs, he⟩
  · cases hn
  have hL := MpF.lab hf
  have hlt : b < w.heap.size := (Array.getElem?_eq_some_iff.1 hb).1
  rcases ents_find hs he k with ⟨h1, h2, h3⟩ | ⟨j, q, x1, h1, h2, h3, h4⟩
  · have hfk := run_findKey (w := w) (P := P) hk' h1
    refine op_of_skip (w' := { w with heap := w.heap.setIfInBounds b (.map (es.push { key := .int .i64 k, val := ev E ag v, born := ck }) (ck + 1)) }) ?_ (h _ (setb_st hb hL) ?_)
    · simp [execOp, hk.ev hx, hk.ev hy, hk.ev hz, mv, Instr.mapUpdate, run_underlying hm', MapKept.run_getObj_map hb, hck, hfk, MapKept.run_setObj_map _ hb, Result.andThen]
    · show Ft (MpF E ag (some ⟨b, 0, none⟩) ⟨some (mput l k v)⟩) _ _ _
      refine MpF.ft ⟨es.push { key := .int .i64 k, val := ev E ag v, born := ck }, ck + 1, by simp [hlt], stamped_push hs h2, ?_⟩ hL
      rw [mput_none h3]
      simp [he]
  · have hfk := run_findKey (w := w) (P := P) hk' h1
    have hks := run_keyThatStays (P := P) (w := w) (d := .int .i64) (k := .int .i64 k) rfl
    refine op_of_skip (w' := { w with heap := w.heap.setIfInBounds b (.map (es.modify j fun e => { e with key := .int .i64 k, val := ev E ag v }) ck) }) ?_ (h _ (setb_st hb hL) ?_)
    · simp [execOp, hk.ev hx, hk.ev hy, hk.ev hz, mv, Instr.mapUpdate, run_underlying hm', MapKept.run_getObj_map hb, hck, hfk, h2, h3, hks, MapKept.run_setObj_map _ hb, Result.andThen]
    · show Ft (MpF E ag (some ⟨b, 0, none⟩) ⟨some (mput l k v)⟩) _ _ _
      have hkey : ∀ e', es[j]? = some e' → ({ e' with key := .int .i64 k, val := ev E ag v } : MapEntry).key = e'.key := fun e' he' => by rw [h2] at he'; cases he'; exact h3.symm
      refine MpF.ft ⟨es.modify j fun e => { e with key := .int .i64 k, val := ev E ag v }, ck, by simp [hlt], stamped_modify hs j (fun e => { e with key := .int .i64 k, val := ev E ag v }) (fun _ _ => rfl) (fun e' _ he' => hkey e' he'), ?_⟩ hL
      rw [mput_at (ents_nodup hs he) h4, map_set, ← he]
      apply List.ext_getElem?
      intro i
      simp only [List.getElem?_map, Array.getElem?_toList, Array.getElem?_modify, List.getElem?_set, List.length_map, Array.length_toList]
      by_cases hij : j = i
      · subst hij
        have := (Array.getElem?_eq_some_iff.1 h2).1
        simp [h2, this]
      · simp [hij]
theorem op_mwipe (ht : TabOK P T) (hk : KnD n ds a e) {mt kt et : Nat} {x : Operand}
    (hm : find T.und mt = some (.map kt et)) (hx : evo e x = some (mv A)) (hf : Ft (MpF E ag A m) w o L)
    (h : ∀ w', St [L] w o w' o → Ft (MpF E ag A m.wipe) w' o L → K (a.put d (.tuple #[])) w') :
    (Oper.mk d (.call { callee := .builtin .clear, args := #[x], argTypes := #[mt] }) ty pos af gd).wpIn (WF ρ) 0 P a w K Q := by
  have hm' := ht.u hm
  have hu := run_underlying' (w := w) hm'
  rcases hf.now with ⟨rfl, rfl⟩ | ⟨b, l, rfl, rfl, es, ck, hb, hs, he⟩
  · refine op_of_run (v := .tuple #[]) (w' := w) ?_ (h w (St.refl _ w o) hf)
    simp [execOp, resolve, invoke, builtin, hk.ev hx, mv, Builtin.clear_, hu, Result.andThen]
  · have hL := MpF.lab hf
    have hlt : b < w.heap.size := (Array.getElem?_eq_some_iff.1 hb).1
    refine op_of_run (v := .tuple #[]) (w' := { w with heap := w.heap.setIfInBounds b (.map #[] ck) }) ?_ (h _ (setb_st hb hL) (MpF.ft (l := []) ⟨#[], ck, by simp [hlt], stamped_empty _, rfl⟩ hL))
    simp [execOp, resolve, invoke, builtin, hk.ev hx, mv, Builtin.clear_, hu, MapKept.run_getObj_map hb, MapKept.run_setObj_map _ hb, Result.andThen]
theorem op_mdel (ht : TabOK P T) (hk : KnD n ds a e) {mt kt et : Nat} {x y : Operand} {k : Int}
    (hm : find T.und mt = some (.map kt et)) (hkt : find T.und kt = some (.int .i64)) (hx : evo e x = some (mv A)) (hy : evo e y = some (.int .i64 k)) (hf : Ft (MpF E ag A m) w o L)
    (h : ∀ w', St [L] w o w' o → Ft (MpF E ag A (m.del k)) w' o L → K (a.put d (.tuple #[])) w') :
    (Oper.mk d (.call { callee := .builtin .delete, args := #[x, y], argTypes := #[mt, kt] }) ty pos af gd).wpIn (WF ρ) 0 P a w K Q := by
  have hm' := ht.u hm
  have hk' := ht.u hkt
  have hck := fun (e : Bool) => run_checkKey (w := w) hk' (k := .int .i64 k) rfl e 9999
  rcases hf.now with ⟨rfl, rfl⟩ | ⟨b, l, rfl, rfl, es, ck, hb, hs, he⟩
  · refine op_of_run (v := .tuple #[]) (w' := w) ?_ (h w (St.refl _ w o) hf)
    simp [execOp, resolve, invoke, builtin, hk.ev hx, hk.ev hy, mv, Builtin.delete_, run_underlying hm', hck, Result.andThen]
  · have hL := MpF.lab hf
    have hlt : b < w.heap.size := (Array.getElem?_eq_some_iff.1 hb).1
    rcases ents_find hs he k with ⟨h1, h2, h3⟩ | ⟨j, q, x1, h1, h2, h3, h4⟩
    · have hfk := run_findKey (w := w) (P := P) hk' h1
      refine op_of_run (v := .tuple #[]) (w' := { w with heap := w.heap.setIfInBounds b (.map es ck) }) ?_ (h _ (setb_st hb hL) ?_)
      · simp [execOp, resolve, invoke, builtin, hk.ev hx, hk.ev hy, mv, Builtin.delete_, run_underlying hm', MapKept.run_getObj_map hb, hck, hfk, MapKept.run_setObj_map _ hb, Result.andThen]
      · show Ft (MpF E ag (some ⟨b, 0, none⟩) ⟨some (mdel l k)⟩) _ _ _
        rw [mdel_none h3]
        exact MpF.ft ⟨_, _, by simp [hlt], hs, he⟩ hL
    · have hfk := run_findKey (w := w) (P := P) hk' h1
      refine op_of_run (v := .tuple #[]) (w' := { w with heap := w.heap.setIfInBounds b (.map (es.eraseIdxIfInBounds j) ck) }) ?_ (h _ (setb_st hb hL) ?_)
      · simp [execOp, resolve, invoke, builtin, hk.ev hx, hk.ev hy, mv, Builtin.delete_, run_underlying hm', MapKept.run_getObj_map hb, hck, hfk, MapKept.run_setObj_map _ hb, Result.andThen]
      · show Ft (MpF E ag (some ⟨b, 0, none⟩) ⟨some (mdel l k)⟩) _ _ _
        have hj := (Array.getElem?_eq_some_iff.1 h2).1
        refine MpF.ft ⟨_, _, by simp [hlt], stamped_erase hs j, ?_⟩ hL
        rw [mdel_at (ents_nodup hs he) h4]
        have e1 : (es.eraseIdxIfInBounds j).toList = es.toList.eraseIdx j := by
          unfold Array.eraseIdxIfInBounds
          rw [dif_pos hj, Array.toList_eraseIdx]
        rw [e1, ← eraseIdx_map', he, eraseIdx_map']
end
end Go.Proofs.XC
