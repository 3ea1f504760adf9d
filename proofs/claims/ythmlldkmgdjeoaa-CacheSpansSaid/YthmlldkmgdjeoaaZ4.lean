/- Words of an own calculus over the model: how a call's frame, rows and boxes go through its operations. -/
import Derived.Test.YthmlldkmgdjeoaaZ3
import Derived.Lib.UnsafeStr
import Derived.Lib.Builder
import Derived.Laws.Externs
import Derived.Below
import Derived.Deep.Draws
import Derived.Sort.Grow
import Derived.Handed
import Derived.ShapedOpen
import Derived.Lib.LaidTab
import Derived.Lib.AtoiErrMem
import Derived.LaidLaws
set_option linter.unusedSimpArgs false
set_option linter.unusedVariables false
namespace Go.Proofs.XC
open Go Go.MapKept

section
variable {ρ : Option Nat} {ds : List Deferred} {P : Program} {T : Tab} {n : Nat} {a : Act} {e : Env} {w w' : World} {o o' : Nat → Nat} {L : Nat} {Q : Exit → Act → World → Prop} {K : Act → World → Prop}
  {d : Option Tmp} {ty : TypeId} {pos : String} {af : Array Edge} {gd : Option (Nat × Bool)} {β : Type} {E : Enc β} {ag : Bool} {A : Option Addr} {m : M β}
/-! ### maps.Clone -/
theorem ask_iface (ht : TabOK P T) {t kt et : Nat} {v : Value} {x : Operand} (hu : find T.und t = some (.map kt et)) (hx : evo e x = some v) (W : World) : AskIs P e (Oper.mk d (.makeInterface t x) ty pos af gd) (.iface t v) W := by
  intro ρ hρ
  have := run_underlying' (w := W) (ht.u hu)
  simp [execOp, hρ _ _ hx, Instr.makeInterface, this]
theorem ask_assert (ht : TabOK P T) {t t2 kt et : Nat} {v : Value} {x : Operand} (hu : find T.und t = some (.map kt et)) (hx : evo e x = some (.iface t v)) (W : World) : AskIs P e (Oper.mk d (.typeAssert x t2 t false) ty pos af gd) v W := by
  intro ρ hρ
  have := run_underlying' (w := W) (ht.u hu)
  simp [execOp, hρ _ _ hx, Instr.typeAssert, this]
theorem op_mclone (hk : KnD n ds a e) {f : FuncId} {fn : Func} {t : Nat} {args : Array Operand} {ats : Array TypeId} (hf : P.funcs[f]? = some fn) (h1 : (fn.name == "runtime.NumGoroutine") = false) (h2 : fn.body.isNone = true) (h3 : Extern.findNext fn = none) (h4 : Extern.find fn = some Extern.MapsClone.clone)
    (hx : allSome (args.toList.map (evo e)) = some [.iface t (mv A)]) (hn : m.isNil = false) (hm : Ft (MpF E ag A m) w o L) (L2 : Nat)
    (h : ∀ b w' o', St [] w o w' o' → Ft (MpF E ag (some ⟨b, 0, none⟩) m) w' o' L2 → K (a.put d (.iface t (mv (some ⟨b, 0, none⟩)))) w') :
    (Oper.mk d (.call { callee := .value (.func f), args := args, argTypes := ats }) ty pos af gd).wpIn (WF ρ) 0 P a w K Q := by
  rcases hm.now with ⟨_, rfl⟩ | ⟨b, l, rfl, rfl, es, ck, hb, hs, he⟩
  · cases hn
  have e1 : Extern.MapsClone.clone #[.iface t (.map (some b))] = (getObj b >>= fun o => match o with
      | .map entries clock => (newObj (.map entries clock) >>= fun n => pure (.iface t (.map (some n))))
      | _ => stuck "maps.clone: a map expected") := rfl
  have hr : (Extern.MapsClone.clone #[.iface t (.map (some b))]).run P w = .ok (.iface t (.map (some w.heap.size))) (w.alloc (.map es ck)) := by
    rw [e1]
    simp [MapKept.run_getObj_map hb, Result.andThen]
  refine op_of_run (v := .iface t (.map (some w.heap.size))) (w' := w.alloc (.map es ck)) ?_ (h w.heap.size _ _ (St.alloc [] w o _ L2) (MpF.ft ⟨es, ck, heap_alloc_new w _, hs, he⟩ (by simp [newLab])))
  have h5 := run_callFunc_extern hf h1 h2 h3 h4 #[.iface t (.map (some b))] w
  rw [hr] at h5
  have h6 := allSome_map (ev := evo e) (ρ := a.eval) (fun x v hx => hk.ev hx) _ _ hx
  have h7 : args.map a.eval = #[.iface t (.map (some b))] := Array.toList_inj.1 (by rw [Array.toList_map]; exact h6)
  simp [execOp, resolve, Act.eval, Deferred.ofValue, invoke, h7, h5]
/-! ### strings.Builder: the address of its own, and a row -/
def Bl (b t : Nat) (v : Value) (w : World) : Prop := ∃ p : Option Addr, (p = none ∨ p = some ⟨b, 0, none⟩) ∧ Bx b t [.pointer p, v] w
theorem Bl.of {b t : Nat} {v : Value} {p : Option Addr} (h : Bx b t [.pointer p, v] w) (hp : p = none ∨ p = some ⟨b, 0, none⟩) : Bl b t v w := ⟨p, hp, h⟩
theorem Bl.open {b t : Nat} {v : Value} (h : Ft (Bl b t v) w o L) : ∃ p : Option Addr, (p = none ∨ p = some ⟨b, 0, none⟩) ∧ Ft (Bx b t [.pointer p, v]) w o L := by
  obtain ⟨p, hp, hb⟩ := h.now
  refine ⟨p, hp, Ft.box hb ?_⟩
  by_cases ho : o b = L
  · exact ho
  · exfalso
    have hlt : b < w.heap.size := (Array.getElem?_eq_some_iff.1 hb).1
    obtain ⟨p2, _, h2⟩ := h { w with heap := w.heap.setIfInBounds b (.map #[] 0) } fun c hc _ => by
      have : c ≠ b := fun e => ho (by rw [← e]; exact hc)
      simp [Array.getElem?_setIfInBounds, Ne.symm this]
    unfold Bx at h2
    simp [hlt] at h2
theorem Bx.shape {b t : Nat} {cs : List Value} (h : Bx b t cs w) : w.shape? b = some (t, cs.length) := by
  unfold Bx at h
  simp [World.shape?, h]
theorem ask_toU (ht : TabOK P T) {tp tu t b s bb : Nat} {z : Value} {p v : Value} {x : Operand} (h1 : find T.und tp = some (.pointer t)) (h2 : find T.und tu = some .unsafePointer) (h3 : find T.inf t = some (s, bb, z)) (h4 : Nat.blt 0 s = true) (hb : Bx b t [p, v] w)
    (hx : evo e x = some (.pointer (some ⟨b, 0, none⟩))) : AskIs P e (Oper.mk d (.convert tp tu x) ty pos af gd) (.pointer (some ⟨b, 0, none⟩)) w := by
  intro ρ hρ
  obtain ⟨i, hi, his, _, _⟩ := ht.i h3
  have := Lib.run_to_unsafe (P := P) (w := w) ⟨b, 0, none⟩ (ht.u h1) (ht.u h2) hi (by have : 0 < s := by simpa [Nat.blt_eq] using h4
                                                                                      omega) hb.shape (by simp)
  simp [execOp, hρ _ _ hx, this]
theorem ask_ofU (ht : TabOK P T) {tp tu t b s bb : Nat} {z : Value} {p v : Value} {x : Operand} (h1 : find T.und tp = some (.pointer t)) (h2 : find T.und tu = some .unsafePointer) (h3 : find T.inf t = some (s, bb, z)) (h4 : liesAt P P.depth t (2 / P.cellsOf t) 0 t 1 = true) (hb : Bx b t [p, v] w)
    (hx : evo e x = some (.pointer (some ⟨b, 0, none⟩))) : AskIs P e (Oper.mk d (.convert tu tp x) ty pos af gd) (.pointer (some ⟨b, 0, none⟩)) w := by
  intro ρ hρ
  obtain ⟨i, hi, his, _, _⟩ := ht.i h3
  have := Lib.run_from_unsafe (P := P) (w := w) ⟨b, 0, none⟩ (ht.u h2) (ht.u h1) hi hb.shape h4
  simp [execOp, hρ _ _ hx, this]
theorem ask_noesc {f : FuncId} {fn : Func} {v : Value} {x : Operand} {args : Array TypeId} (hf : P.funcs[f]? = some fn) (h1 : (fn.name == "runtime.NumGoroutine") = false) (h2 : fn.body.isNone = true) (h3 : Extern.findNext fn = none) (h4 : Extern.find fn = some Extern.AbiNoEscape.same)
    (hx : evo e x = some v) (W : World) : AskIs P e (Oper.mk d (.call { callee := .value (.func f), args := #[x], argTypes := args }) ty pos af gd) v W := by
  intro ρ hρ
  have h5 := run_callFunc_extern hf h1 h2 h3 h4 #[v] W
  rw [Lib.run_noEscape] at h5
  have hx' := hρ _ _ hx
  have hf' := hρ (.func f) (.func (.func f) #[] #[]) rfl
  simp [execOp, resolve, invoke, hx', hf', Deferred.ofValue]
  simpa using h5
/-! ### unsafe.String -/
theorem loadBytes_ints : ∀ (l : List Int) (ad : Addr) (acc : ByteArray), (∀ (j : Nat) (x : Int), l[j]? = some x → w.cell? (ad.add j) = some (.int .u8 x)) →
    (loadBytes ad acc l.length).run P w = .ok ⟨acc.data ++ (l.map fun n => UInt8.ofNat n.toNat).toArray⟩ w
  | [], ad, acc, _ => by simp [loadBytes]
  | x :: l, ad, acc, h => by
    have h0 : w.cell? ad = some (.int .u8 x) := by
      have := h 0 x rfl
      simpa [Addr.add] using this
    have ih := loadBytes_ints l (ad.add 1) (acc.push x.toNat.toUInt8) (fun j y hy => by
      have := h (j + 1) y (by simpa using hy)
      have e : (ad.add 1).add j = ad.add (j + 1) := by
        unfold Addr.add
        by_cases hj : j = 0
        · subst hj; simp
        · simp [hj]; omega
      rw [e]; exact this)
    simp only [List.length_cons, loadBytes, Sem.run_bind, run_load, h0, Result.andThen]
    rw [ih]
    congr 1
    apply ByteArray.ext
    simp [ByteArray.push]
theorem strOfNums_nil : strOfNums [] = ByteArray.empty := rfl
theorem run_ustr_row (pt it ty e : TypeId) (hp : P.underlying pt = some (.pointer e)) (hc : P.cellsOf e = 1) (g cells : Nat) (hsh : w.shape? g = some (e, cells)) (l : List Int) (h0 : l ≠ []) (hn : l.length ≤ cells) (h63 : l.length ≤ 9223372036854775807)
    (hcell : ∀ (j : Nat) (x : Int), l[j]? = some x → w.cell? ((⟨g, 0, none⟩ : Addr).add j) = some (.int .u8 x)) :
    (Builtin.unsafeString_ #[pt, it] ty #[.pointer (some ⟨g, 0, none⟩), .int .i64 l.length]).run P w = .ok (.string (strOfNums l)) (w.freeze ⟨g, 0, none⟩ l.length) := by
  have hl : l.length ≠ 0 := by simpa using h0
  have hlb := loadBytes_ints (P := P) (w := w) l ⟨g, 0, none⟩ .empty hcell
  have hlies := Lib.liesAt_bytes (P := P) hc (cells / P.cellsOf e) l.length (by rw [hc]; simpa using hn)
  have h63' : ¬ (9223372036854775807 : Int) < (l.length : Int) := by omega
  have hdef : Builtin.unsafeString_ #[pt, it] ty #[.pointer (some ⟨g, 0, none⟩), .int .i64 l.length] =
      (do
        let n ← asInt (.int .i64 l.length)
        if n < 0 then runtimePanic (.error "unsafe.String: len out of range")
        if n > IntKind.i64.max then unsupported (.unsafePointer "String: a length above the largest int")
        if n = 0 then pure (.string .empty)
        else if ← variablesAt ⟨g, 0, none⟩ (← elemOf pt) n.toNat then do
          let s ← loadBytes ⟨g, 0, none⟩ .empty n.toNat
          freeze ⟨g, 0, none⟩ n.toNat
          pure (.string s)
        else unsupported (.unsafePointer "String: not so many bytes at ptr")) := rfl
  rw [hdef]
  have hmax : IntKind.i64.max = 9223372036854775807 := rfl
  have e0 : ¬ ((l.length : Int) < 0) := by omega
  have e1 : ¬ ((l.length : Int) = 0) := by omega
  simp [asInt, asIntOf, hmax, h63', e0, e1, hl, h0, variablesAt, viewAt, hsh, elemOf, run_underlying hp, hlies, hlb, freeze, Sem.run, Result.andThen, strOfNums]
theorem op_sdata (hk : KnD n ds a e) (ht : TabOK P T) {el c : Nat} {x : Operand} {xs : List Int} {ts : Array TypeId} (hu : find T.und ty = some (.pointer el)) (hx : evo e x = some (.slice A xs.length c)) (hown : Ft (Own (encInt .u8) el (.slice A xs.length c) xs) w o L)
    (h : ∀ p w' o', St [] w o w' o' → (xs = [] ∨ p = A) → K (a.put d (.pointer p)) w') :
    (Oper.mk d (.call { callee := .builtin .unsafeSliceData, args := #[x], argTypes := ts }) ty pos af gd).wpIn (WF ρ) 0 P a w K Q := by
  have hex : ∀ (v : Value) (w' : World), (Builtin.unsafeSliceData_ ts ty #[.slice A xs.length c]).run P w = .ok v w' → (execOp a.eval (Oper.mk d (.call { callee := .builtin .unsafeSliceData, args := #[x], argTypes := ts }) ty pos af gd)).run P w = .ok (.value v) w' := by
    intro v w' hr
    simp [execOp, resolve, invoke, builtin, hk.ev hx, hr]
  rcases hown.now.2 with ⟨hv, h0⟩ | ⟨g, cap, cur, hv, _, hh, hcap, _, _, _⟩
  · injection hv with hA _ _
    subst hA
    exact op_of_run (hex _ _ (Lib.run_unsafeSliceData_nil w ts ty _ c)) (h none w o (St.refl _ _ _) (.inr rfl))
  · injection hv with hA _ hc
    subst hA; subst hc
    by_cases hc0 : c = 0
    · subst hc0
      have hxs : xs = [] := List.eq_nil_of_length_eq_zero (by omega)
      refine op_of_run (hex _ _ (Lib.run_unsafeSliceData_zero w ts ty el (ht.u hu) ⟨g, 0, none⟩ xs.length (el, cur.size) (by simp [World.shape?, hh]))) (h _ _ _ (St.alloc [] w o _ 0) (.inl hxs))
    · exact op_of_run (hex _ _ (Lib.run_unsafeSliceData_row w ts ty ⟨g, 0, none⟩ _ c hc0)) (h _ w o (St.refl _ _ _) (.inr rfl))
theorem freeze_st {g k : Nat} (hL : o g = L) : St [L] w o (w.freeze ⟨g, 0, none⟩ k) o := by
  unfold World.freeze
  split
  · exact St.refl _ _ _
  · exact ⟨rfl, rfl, rfl, by simp, fun _ _ _ => rfl, fun c _ hc => by
      have : c ≠ g := fun e => hc (by rw [e, hL]; simp)
      simp only [Array.getElem?_modify, if_neg (Ne.symm this)]⟩
theorem op_ustr (hk : KnD n ds a e) (ht : TabOK P T) {pt it el c b2 : Nat} {z : Value} {x y : Operand} {xs : List Int} {p : Option Addr} (hu : find T.und pt = some (.pointer el)) (hi : find T.inf el = some (1, b2, z)) (hx : evo e x = some (.pointer p)) (hy : evo e y = some (.int .i64 (xs.length : Int))) (hp : xs = [] ∨ p = A)
    (hown : Ft (Own (encInt .u8) el (.slice A xs.length c) xs) w o L)
    (h : ∀ w', St [L] w o w' o → K (a.put d (.string (strOfNums xs))) w') :
    (Oper.mk d (.call { callee := .builtin .unsafeString, args := #[x, y], argTypes := #[pt, it] }) ty pos af gd).wpIn (WF ρ) 0 P a w K Q := by
  have hex : ∀ (v : Value) (w' : World), (Builtin.unsafeString_ #[pt, it] ty #[.pointer p, .int .i64 (xs.length : Int)]).run P w = .ok v w' → (execOp a.eval (Oper.mk d (.call { callee := .builtin .unsafeString, args := #[x, y], argTypes := #[pt, it] }) ty pos af gd)).run P w = .ok (.value v) w' := by
    intro v w' hr
    simp [execOp, resolve, invoke, builtin, hk.ev hx, hk.ev hy, hr]
  by_cases h0 : xs = []
  · subst h0
    exact op_of_run (hex _ _ (Lib.run_unsafeString_none w pt it ty p)) (h w (St.refl _ _ _))
  · obtain rfl : p = A := hp.resolve_left h0
    have hn0 : xs.length ≠ 0 := by simpa using h0
    obtain ⟨i, hinf, his, _, _⟩ := ht.i hi
    rcases hown.now.2 with ⟨hv, h1⟩ | ⟨g, cap, cur, hv, _, hh, hcap, hmax, h3, h4⟩
    · exact absurd h1 hn0
    · injection hv with hA _ hc
      subst hA
      have hL : o g = L := Own.lab hown g rfl
      have hce : P.cellsOf el = 1 := by simp [Program.cellsOf, hinf, his]
      have hrd := Own.rd hown.now (by omega)
      obtain ⟨ad, had, hcell⟩ := hrd
      injection had with had
      subst had
      have hsz : xs.length ≤ cur.size := by
        have : (xs.flatMap (encInt .u8).f).length = xs.length * 1 := flat_len _ _
        have h5 := congrArg List.length h4
        simp only [List.length_take, Array.length_toList] at h5
        have hen : (encInt .u8).sz = 1 := rfl
        rw [hen] at h5
        omega
      refine op_of_run (hex _ _ (run_ustr_row (P := P) (w := w) pt it ty el (ht.u hu) hce g cur.size (by simp [World.shape?, hh]) xs h0 hsz (by simp only [maxLen] at hmax; omega) fun j x hx => ?_)) (h _ (freeze_st hL))
      have := hcell j x hx 0 (.int .u8 x) rfl
      have e1 : ((⟨g, 0, none⟩ : Addr).add (j * (encInt .u8).sz)).add 0 = (⟨g, 0, none⟩ : Addr).add j := by
        show ((⟨g, 0, none⟩ : Addr).add (j * 1)).add 0 = _
        simp [Addr.add]
      rw [e1] at this
      exact this
end
end Go.Proofs.XC

set_option linter.unusedSimpArgs false
set_option linter.unusedVariables false
namespace Go.Proofs.XC
open Go

/-! ### A row that is own where a test says so; else it stands on its label, or is frozen -/
def CO {α : Type} (E : Enc α) (t : TypeId) (A : Option Addr) (c : Nat) (xs : List α) (b : Bool) (w : World) (o : Nat → Nat) (L F : Nat) : Prop :=
  (b = true → Ft (Own E t (.slice A xs.length c) xs) w o L) ∧ (Ft (RdC E A xs) w o L ∨ Ft (RdC E A xs) w o F)
theorem RdC.nilr {α : Type} (E : Enc α) (A : Option Addr) (w : World) : RdC E A ([] : List α) w := fun h => absurd h (by simp)
theorem St.closeMM_ft {P : World → Prop} {w W : World} {oi o of : Nat → Nat} {MM : List Nat} {l L : Nat} (h : St MM w oi W of) (f : Ft P W of l) {ρ : Nat → Nat} (hl : l ∈ MM) (hρ : ρ l = L) : Ft P W (cl w oi o MM ρ of) L :=
  f.mono fun b hb _ => by
    by_cases hlt : b < w.heap.size ∧ oi b ∉ MM
    · exact absurd (by rw [← h.lab b hlt.1 hlt.2, hb]; exact hl) hlt.2
    · unfold cl; rw [if_neg hlt, hb, hρ]
section
variable {α : Type} {E : Enc α} {t : TypeId} {A : Option Addr} {c : Nat} {xs : List α} {b : Bool} {w w' : World} {o o' : Nat → Nat} {L F L' F' : Nat} {M : List Nat}
theorem CO.conv (h : CO E t A c xs b w o L F) (h1 : ∀ P : World → Prop, Ft P w o L → Ft P w' o' L') (h2 : ∀ P : World → Prop, Ft P w o F → Ft P w' o' F') : CO E t A c xs b w' o' L' F' :=
  ⟨fun hb => h1 _ (h.1 hb), h.2.elim (fun f => .inl (h1 _ f)) (fun f => .inr (h2 _ f))⟩
theorem CO.st (h : CO E t A c xs b w o L F) (s : St M w o w' o') (hL : L ∉ M ∧ F ∉ M) : CO E t A c xs b w' o' L F := h.conv (fun _ f => f.st s hL.1) (fun _ f => f.st s hL.2)
theorem CO.relab (h : CO E t A c xs b w o L F) (r : Nat → Nat) (hr : (r L, r F) = (L', F')) : CO E t A c xs b w (fun b => r (o b)) L' F' :=
  h.conv (fun _ f => f.relab r (Prod.mk.inj hr).1) (fun _ f => f.relab r (Prod.mk.inj hr).2)
theorem CO.own (h : CO E t A c xs true w o L F) : Ft (Own E t (.slice A xs.length c) xs) w o L := h.1 rfl
theorem CO.of_own (f : Ft (Own E t (.slice A xs.length c) xs) w o L) (b : Bool) (F : Nat) : CO E t A c xs b w o L F := ⟨fun _ => f, .inl (f.imp fun _ h => Own.rd h)⟩
theorem CO.of_rd (f : Ft (RdC E A xs) w o F) (L : Nat) : CO E t A c xs false w o L F := ⟨fun h => (by cases h), .inr f⟩
theorem CO.weak (h : CO E t A c xs b w o L F) : CO E t A c xs false w o L F := ⟨fun h => (by cases h), h.2⟩
theorem CO.nil (E : Enc α) (t : TypeId) (b : Bool) (w : World) (o : Nat → Nat) (L F : Nat) : CO E t none 0 ([] : List α) b w o L F :=
  CO.of_own (Ft.of_all (fun _ => Own.nil _ _ _) _ _ _) b F
theorem CO.rd (h : CO E t A c xs b w o L F) : Ft (RdC E A xs) w o L ∨ Ft (RdC E A xs) w o F := h.2
theorem NOwn.ofnil {β : Type} {D : ND β} {et : TypeId} {ys : List β} (h : NRd D none ys w o L F) (w' : World) (o' : Nat → Nat) (L' F' : Nat) : NOwn D et none 0 ys w' o' L' F' := by
  rw [h.nul]; exact NOwn.nil _ _ _ _ _ _
end
end Go.Proofs.XC

set_option linter.unusedSimpArgs false
set_option linter.unusedVariables false
namespace Go.Proofs.XC
open Go

/-! ### The library's contracts, in the calculus' words -/
section
variable {w w' : World} {o : Nat → Nat}
theorem St.below (h : RowKit.Below w.heap.size w w') : St [] w o w' o := ⟨h.os, h.tape, h.output, h.size, fun _ _ _ => rfl, fun b hb _ => h.block b hb⟩
theorem St.drewN (n : Nat) : St [] w o (w.drewN n) o := ⟨rfl, rfl, rfl, Nat.le_refl _, fun _ _ _ => rfl, fun _ _ _ => rfl⟩
theorem St.grow (n : Nat) (os : Array Obj) : St [] w o (Go.Sort.grow (w.drewN n) os) o := by
  refine ⟨rfl, rfl, rfl, ?_, fun _ _ _ => rfl, fun b hb _ => ?_⟩
  · show w.heap.size ≤ (w.heap ++ os).size
    rw [Array.size_append]; omega
  · show (w.heap ++ os)[b]? = _
    rw [Array.getElem?_append_left hb]
theorem St.bytes (e : TypeId) (s : ByteArray) : St [] w o (Lib.bytesWorld w e s) o := St.below (Lib.bytesWorld_below w e s)
end
/-! ### Variables of the library's own -/
def GInt (g : Nat) (W : World) : Prop := ∃ m, W.cell? ⟨g, 0, none⟩ = some (.int .i64 m)
def GIface (g : Nat) (W : World) : Prop := ∃ t p, W.cell? ⟨g, 0, none⟩ = some (.iface t p)
theorem cell_keep {W W' : World} {g : Nat} {v : Value} (h : W.cell? ⟨g, 0, none⟩ = some v) (hk : g < W.heap.size → W'.heap[g]? = W.heap[g]?) : W'.cell? ⟨g, 0, none⟩ = some v := by
  have hb := hk (cell_lt h)
  rw [← h]
  unfold World.cell?
  simp only [hb]
theorem GInt.ft {g : Nat} {W : World} (h : GInt g W) : Ft (GInt g) W (fun _ => 0) 0 := fun W' hw => let ⟨m, hm⟩ := h; ⟨m, cell_keep hm fun hl => hw g rfl hl⟩
theorem GIface.ft {g : Nat} {W : World} (h : GIface g W) : Ft (GIface g) W (fun _ => 0) 0 := fun W' hw => let ⟨t, p, hm⟩ := h; ⟨t, p, cell_keep hm fun hl => hw g rfl hl⟩
def GTab (P : Program) (nm : String) (k : IntKind) (zs : List Int) (W : World) : Prop := Lib.TabIs P W nm k zs
theorem var_keep {P : Program} {W W' : World} {nm : String} {g : Nat} {cs : Array Value} (hg : P.globalNamed nm = some g) (h : W.var? P nm = some cs) (hk : g < W.heap.size → W'.heap[g]? = W.heap[g]?) : W'.var? P nm = some cs := by
  have h' := h
  unfold World.var? at h
  rw [hg] at h
  simp only [Option.bind_some] at h
  have hl : g < W.heap.size := by
    by_cases hl : g < W.heap.size
    · exact hl
    · rw [Array.getElem?_eq_none (by omega)] at h; cases h
  rw [← h']
  unfold World.var?
  rw [hg]
  simp only [Option.bind_some, hk hl]
theorem GTab.ft {P : Program} {nm : String} {k : IntKind} {zs : List Int} {g : Nat} {W : World} (hg : P.globalNamed nm = some g) (h : GTab P nm k zs W) : Ft (GTab P nm k zs) W (fun _ => 0) 0 := fun W' hw => var_keep hg h fun hl => hw g rfl hl
section
variable {P : Program} {T : Tab} {w : World}
theorem laid_at {nm : String} {D : DataW Unit} {g t : Nat} (hg : P.globalNamed nm = some g) (hty : (P.globals[g]?).map (·.type) = some t) :
    ∀ {l : List (String × DataW Unit)} {ps : List MemPlace}, (nm, D) ∈ l → DataW.LaidVars P w l ps → ∃ cs f p, w.var? P nm = some cs ∧ DataW.trod (fun _ => ()) P w 0 (fun _ => true) false f t cs.toList = some (D, p)
  | [], _, h, _ => by cases h
  | (n', D') :: r, ps, h, hv => by
    obtain ⟨g0, t0, cs0, f0, p0, q0, hg0, ht0, hv0, hd0, hr, _⟩ := hv
    rcases List.mem_cons.1 h with h | h
    · injection h with h1 h2
      subst h1; subst h2
      rw [hg] at hg0; injection hg0 with hg0; subst hg0
      rw [hty] at ht0; injection ht0 with ht0; subst ht0
      exact ⟨cs0, f0, p0, hv0, hd0⟩
    · exact laid_at hg hty h hr
theorem laid_iface {nm name : String} {d : DataW Unit} {g t : Nat} {ms : Array (String × TypeId)} (hg : P.globalNamed nm = some g) (hty : (P.globals[g]?).map (·.type) = some t) (hu : P.underlying t = some (.interface ms)) {l : List (String × DataW Unit)} {ps : List MemPlace}
    (h : (nm, .iface name d) ∈ l) (hv : DataW.LaidVars P w l ps) : GIface g w := by
  obtain ⟨cs, f, p, hv0, hd0⟩ := laid_at hg hty h hv
  obtain ⟨_, u, v, hc, _, _⟩ := iface_of_trod hu hd0
  have h0 := World.var?_cell hg hv0 0
  have e : cs[0]? = some (.iface u v) := by rw [← Array.getElem?_toList, hc]; rfl
  exact ⟨u, v, by rw [h0]; exact e⟩
theorem laid_tab (ht : TabOK P T) {nm : String} {D : DataW Unit} {g t dd : Nat} {k : IntKind} {zs : List Int} (hg : P.globalNamed nm = some g) (hty : (P.globals[g]?).map (·.type) = some t) (hD : laidP T dd t D = some (zs.map fun z => Value.int k z))
    {l : List (String × DataW Unit)} {ps : List MemPlace} (h : (nm, D) ∈ l) (hv : DataW.LaidVars P w l ps) : GTab P nm k zs w := by
  obtain ⟨cs, f, p, hv0, hd0⟩ := laid_at hg hty h hv
  have hcs := laidP_sound ht dd _ _ _ _ _ _ hD hd0
  unfold GTab Lib.TabIs
  rw [hv0, ← hcs]
end
/-! ### An error that is nil or isn't -/
def errV (t : Nat) (b : Bool) (N : Nat) : Value := bif b then .nilIface else .iface t (.pointer (some ⟨N, 0, none⟩))
section
variable {P : Program} {T : Tab} {w : World} {e : Env} {d : Option Tmp} {ty : TypeId} {pos : String} {af : Array Edge} {gd : Option (Nat × Bool)}
theorem run_equal_err (ht : TabOK P T) {t te N : Nat} {b : Bool} {ms : _} (hu : find T.und t = some (.interface ms)) : (Op.equal t (errV te b N) .nilIface).run P w = .ok b w := by
  have hr := run_underlying' (w := w) (ht.u hu)
  refine equal_of fun n => ?_
  cases b <;> simp [Op.equalIn, hr, errV]
theorem ask_errnil (ht : TabOK P T) {t te N : Nat} {b : Bool} {ms : _} {x : Operand} {z : TypeId} (hu : find T.und t = some (.interface ms)) (hx : evo e x = some (errV te b N)) {W : World} :
    AskIs P e (Oper.mk d (.binOp .eql t x (.const .nilIface) z) ty pos af gd) (.bool b) W := by
  intro ρ hρ
  have h3 : (do eqGuard .eql t x (.const .nilIface) (errV te b N) .nilIface; binOp .eql t (errV te b N) .nilIface).run P W = .ok (.bool b) W := by
    cases b
    · exact run_eq_of (x := x) (y := .const .nilIface) (a := .iface te (.pointer (some ⟨N, 0, none⟩))) ⟨rfl, rfl⟩ (run_equal_err (b := false) ht hu)
    · exact run_eq_of (x := x) (y := .const .nilIface) (a := .nilIface) ⟨rfl, by cases x <;> rfl⟩ (run_equal_err (b := true) (te := te) (N := N) ht hu)
  have h4 := hρ _ _ hx
  have h5 := hρ (.const .nilIface) .nilIface rfl
  simp only [execOp, h4, h5]
  simp only [Sem.run_bind] at h3 ⊢
  simp [h3]
end
end Go.Proofs.XC
namespace Go
variable {H : Type} {enc : TypeId × Value → H}
/-- The wrap of a row whose variables are laid, with the world's shape at hand. -/
theorem returnsInHanded_of_change_and_shaped {a : Assume} {C : Checked} {os : Os} {f : FuncId} {fn : Func} {s : ChangeSpec} {conds : List PathCond} {apart fresh handsOn again : Bool} {X : World → Array Value → Prop}
    (hX : ∀ (w w' : World) (args : Array Value), w.heap = w'.heap → X w args → X w' args)
    (own : ownKnob C.prog.godebug = none) (started : os.Started) (noInit : C.prog.inits.idxOf? f = none) (hfn : C.prog.funcs[f]? = some fn)
    (witness : ∃ (w : World) (tape : Tape) (i : Input), w.os = os ∧ (w.forCall tape i).Shaped C.prog ∧ i.vars = [] ∧ Input.okWide C.prog (w.forCall tape i) .any w.heap.size f i ∧
      ((s.pre enc C.prog fn conds apart (w.forCall tape i).memory i.args ∧ X (w.forCall tape i).memory i.args) ∧ sizedMet enc C.prog fn (OpenSpec.ofChange s) apart (w.forCall tape i).memory i.args) ∧ a.holds C.prog (lone (Frame.enter C.prog f i.args .normal) [] (w.forCall tape i)))
    (contract : ∀ (W : World) (base : Nat) (args : Array Value) (ds gs : List (DataW H)) (before : List MemPlace),
      (∀ (j : Nat) t v, fn.params[j]? = some t → args[j]? = some v → Value.okWide C.prog W .any base t v) →
      DataW.Whole enc C.prog fn.params.toList s.vars apart W args.toList ds gs before →
      conds.all (PathCond.test C.prog ⟨fn.params.toList, ds, s.plain.varTypes C.prog, gs⟩) = true →
      (DataW.weightsEach C.prog (fn.params.toList ++ s.plain.varTypes C.prog) (ds ++ gs)).all (· ≤ reachBytes) = true → X W args →
      W.ShapedOpen C.prog →
      a.holds C.prog (lone (Frame.enter C.prog f args .normal) [] W) →
      Calls C.prog f args W fun e W' => ∃ v, e = .returned v ∧ s.post enc C.prog fn apart fresh handsOn again W args v W') :
    ReturnsInHanded a C os f .any (fun w args => (s.pre enc C.prog fn conds apart w args ∧ X w args) ∧ sizedMet enc C.prog fn (OpenSpec.ofChange s) apart w args) (s.post enc C.prog fn apart fresh handsOn again) := by
  refine returnsInHanded_of_calls own started noInit witness ?_
  intro w tape i _ hsh _ hok hpre hholds
  obtain ⟨_, _, _, fn', hfn', _, _, _, _, hval⟩ := hok
  have e : fn' = fn := Option.some.inj (hfn'.symm.trans hfn)
  subst e
  obtain ⟨⟨⟨ds, gs, before, hw, hc⟩, hx⟩, hz⟩ := hpre
  have hw' := DataW.Whole.of_heap (w' := w.forCall tape i) (by rfl) hw
  refine (contract (w.forCall tape i) w.heap.size i.args ds gs before hval hw' hc (hz.weights hw) (hX _ _ _ (by rfl) hx) hsh hholds).mono fun e W' ⟨v, he, hp⟩ => ?_
  subst he
  exact ChangeSpec.post_blind hp
end Go
