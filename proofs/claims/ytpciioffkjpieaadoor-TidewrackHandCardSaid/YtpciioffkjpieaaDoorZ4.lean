/- Words of an own calculus over the model: how a call's frame, rows and boxes go through its operations. -/
import Derived.Test.YtpciioffkjpieaaDoorZ3
import Derived.Lib.UnsafeStr
import Derived.Lib.Builder
import Derived.Laws.Externs
import Derived.Below
import Derived.Deep.Draws
import Derived.Sort.Grow
import Derived.Handed
import Derived.ShapedOpen
import Derived.Lib.LaidTab
import Derived.Lib.AtoiErrMem
import Derived.LaidLaws
import Derived.Shelf.SlIterI.Collect
set_option linter.unusedSimpArgs false
set_option linter.unusedVariables false
namespace Go.Proofs.XC
open Go Go.MapKept

section
variable {ρ : Option Nat} {ds : List Deferred} {P : Program} {T : Tab} {n : Nat} {a : Act} {e : Env} {w w' : World} {o o' : Nat → Nat} {L : Nat} {Q : Exit → Act → World → Prop} {K : Act → World → Prop}
  {d : Option Tmp} {ty : TypeId} {pos : String} {af : Array Edge} {gd : Option (Nat × Bool)} {β : Type} {E : Enc β} {ag : Bool} {A : Option Addr} {m : M β}
/-! ### maps.Clone -/
theorem ask_iface (ht : TabOK P T) {t kt et : Nat} {v : Value} {x : Operand} (hu : find T.und t = some (.map kt et)) (hx : evo e x = some v) (W : World) : AskIs P e (Oper.mk d (.makeInterface t x) ty pos af gd) (.iface t v) W := by
  intro ρ hρ
  have := run_underlying' (w := W) (ht.u hu)
  simp [execOp, hρ _ _ hx, Instr.makeInterface, this]
theorem ask_assert (ht : TabOK P T) {t t2 kt et : Nat} {v : Value} {x : Operand} (hu : find T.und t = some (.map kt et)) (hx : evo e x = some (.iface t v)) (W : World) : AskIs P e (Oper.mk d (.typeAssert x t2 t false) ty pos af gd) v W := by
  intro ρ hρ
  have := run_underlying' (w := W) (ht.u hu)
  simp [execOp, hρ _ _ hx, Instr.typeAssert, this]
theorem op_mclone (hk : KnD n ds a e) {f : FuncId} {fn : Func} {t : Nat} {args : Array Operand} {ats : Array TypeId} (hf : P.funcs[f]? = some fn) (h1 : (fn.name == "runtime.NumGoroutine") = false) (h2 : fn.body.isNone = true) (h3 : Extern.findNext fn = none) (h4 : Extern.find fn = some Extern.MapsClone.clone)
    (hx : allSome (args.toList.map (evo e)) = some [.iface t (mv A)]) (hn : m.isNil = false) (hm : Ft (MpF E ag A m) w o L) (L2 : Nat)
    (h : ∀ b w' o', St [] w o w' o' → Ft (MpF E ag (some ⟨b, 0, none⟩) m) w' o' L2 → K (a.put d (.iface t (mv (some ⟨b, 0, none⟩)))) w') :
    (Oper.mk d (.call { callee := .value (.func f), args := args, argTypes := ats }) ty pos af gd).wpIn (WF ρ) 0 P a w K Q := by
  rcases hm.now with ⟨_, rfl⟩ | ⟨b, l, rfl, rfl, es, ck, hb, hs, he⟩
  · cases hn
  have e1 : Extern.MapsClone.clone #[.iface t (.map (some b))] = (getObj b >>= fun o => match o with
      | .map entries clock => (newObj (.map entries clock) >>= fun n => pure (.iface t (.map (some n))))
      | _ => stuck "maps.clone: a map expected") := rfl
  have hr : (Extern.MapsClone.clone #[.iface t (.map (some b))]).run P w = .ok (.iface t (.map (some w.heap.size))) (w.alloc (.map es ck)) := by
    rw [e1]
    simp [MapKept.run_getObj_map hb, Result.andThen]
  refine op_of_run (v := .iface t (.map (some w.heap.size))) (w' := w.alloc (.map es ck)) ?_ (h w.heap.size _ _ (St.alloc [] w o _ L2) (MpF.ft ⟨es, ck, heap_alloc_new w _, hs, he⟩ (by simp [newLab])))
  have h5 := run_callFunc_extern hf h1 h2 h3 h4 #[.iface t (.map (some b))] w
  rw [hr] at h5
  have h6 := allSome_map (ev := evo e) (ρ := a.eval) (fun x v hx => hk.ev hx) _ _ hx
  have h7 : args.map a.eval = #[.iface t (.map (some b))] := Array.toList_inj.1 (by rw [Array.toList_map]; exact h6)
  simp [execOp, resolve, Act.eval, Deferred.ofValue, invoke, h7, h5]
/-! ### strings.Builder: the address of its own, and a row -/
def Bl (b t : Nat) (v : Value) (w : World) : Prop := ∃ p : Option Addr, (p = none ∨ p = some ⟨b, 0, none⟩) ∧ Bx b t [.pointer p, v] w
theorem Bl.of {b t : Nat} {v : Value} {p : Option Addr} (h : Bx b t [.pointer p, v] w) (hp : p = none ∨ p = some ⟨b, 0, none⟩) : Bl b t v w := ⟨p, hp, h⟩
theorem Bl.open {b t : Nat} {v : Value} (h : Ft (Bl b t v) w o L) : ∃ p : Option Addr, (p = none ∨ p = some ⟨b, 0, none⟩) ∧ Ft (Bx b t [.pointer p, v]) w o L := by
  obtain ⟨p, hp, hb⟩ := h.now
  refine ⟨p, hp, Ft.box hb ?_⟩
  by_cases ho : o b = L
  · exact ho
  · exfalso
    have hlt : b < w.heap.size := (Array.getElem?_eq_some_iff.1 hb).1
    obtain ⟨p2, _, h2⟩ := h { w with heap := w.heap.setIfInBounds b (.map #[] 0) } fun c hc _ => by
      have : c ≠ b := fun e => ho (by rw [← e]; exact hc)
      simp [Array.getElem?_setIfInBounds, Ne.symm this]
    unfold Bx at h2
    simp [hlt] at h2
theorem Bx.shape {b t : Nat} {cs : List Value} (h : Bx b t cs w) : w.shape? b = some (t, cs.length) := by
  unfold Bx at h
  simp [World.shape?, h]
theorem ask_toU (ht : TabOK P T) {tp tu t b s bb : Nat} {z : Value} {p v : Value} {x : Operand} (h1 : find T.und tp = some (.pointer t)) (h2 : find T.und tu = some .unsafePointer) (h3 : find T.inf t = some (s, bb, z)) (h4 : Nat.blt 0 s = true) (hb : Bx b t [p, v] w)
    (hx : evo e x = some (.pointer (some ⟨b, 0, none⟩))) : AskIs P e (Oper.mk d (.convert tp tu x) ty pos af gd) (.pointer (some ⟨b, 0, none⟩)) w := by
  intro ρ hρ
  obtain ⟨i, hi, his, _, _⟩ := ht.i h3
  have := Lib.run_to_unsafe (P := P) (w := w) ⟨b, 0, none⟩ (ht.u h1) (ht.u h2) hi (by have : 0 < s := by simpa [Nat.blt_eq] using h4
                                                                                      omega) hb.shape (by simp)
  simp [execOp, hρ _ _ hx, this]
theorem ask_ofU (ht : TabOK P T) {tp tu t b s bb : Nat} {z : Value} {p v : Value} {x : Operand} (h1 : find T.und tp = some (.pointer t)) (h2 : find T.und tu = some .unsafePointer) (h3 : find T.inf t = some (s, bb, z)) (h4 : liesAt P P.depth t (2 / P.cellsOf t) 0 t 1 = true) (hb : Bx b t [p, v] w)
    (hx : evo e x = some (.pointer (some ⟨b, 0, none⟩))) : AskIs P e (Oper.mk d (.convert tu tp x) ty pos af gd) (.pointer (some ⟨b, 0, none⟩)) w := by
  intro ρ hρ
  obtain ⟨i, hi, his, _, _⟩ := ht.i h3
  have := Lib.run_from_unsafe (P := P) (w := w) ⟨b, 0, none⟩ (ht.u h2) (ht.u h1) hi hb.shape h4
  simp [execOp, hρ _ _ hx, this]
theorem ask_noesc {f : FuncId} {fn : Func} {v : Value} {x : Operand} {args : Array TypeId} (hf : P.funcs[f]? = some fn) (h1 : (fn.name == "runtime.NumGoroutine") = false) (h2 : fn.body.isNone = true) (h3 : Extern.findNext fn = none) (h4 : Extern.find fn = some Extern.AbiNoEscape.same)
    (hx : evo e x = some v) (W : World) : AskIs P e (Oper.mk d (.call { callee := .value (.func f), args := #[x], argTypes := args }) ty pos af gd) v W := by
  intro ρ hρ
  have h5 := run_callFunc_extern hf h1 h2 h3 h4 #[v] W
  rw [Lib.run_noEscape] at h5
  have hx' := hρ _ _ hx
  have hf' := hρ (.func f) (.func (.func f) #[] #[]) rfl
  simp [execOp, resolve, invoke, hx', hf', Deferred.ofValue]
  simpa using h5
/-! ### unsafe.String -/
theorem loadBytes_ints : ∀ (l : List Int) (ad : Addr) (acc : ByteArray), (∀ (j : Nat) (x : Int), l[j]? = some x → w.cell? (ad.add j) = some (.int .u8 x)) →
    (loadBytes ad acc l.length).run P w = .ok ⟨acc.data ++ (l.map fun n => UInt8.ofNat n.toNat).toArray⟩ w
  | [], ad, acc, _ => by simp [loadBytes]
  | x :: l, ad, acc, h => by
    have h0 : w.cell? ad = some (.int .u8 x) := by
      have := h 0 x rfl
      simpa [Addr.add] using this
    have ih := loadBytes_ints l (ad.add 1) (acc.push x.toNat.toUInt8) (fun j y hy => by
      have := h (j + 1) y (by simpa using hy)
      have e : (ad.add 1).add j = ad.add (j + 1) := by
        unfold Addr.add
        by_cases hj : j = 0
        · subst hj; simp
        · simp [hj]; omega
      rw [e]; exact this)
    simp only [List.length_cons, loadBytes, Sem.run_bind, run_load, h0, Result.andThen]
    rw [ih]
    congr 1
    apply ByteArray.ext
    simp [ByteArray.push]
theorem strOfNums_nil : strOfNums [] = ByteArray.empty := rfl
theorem run_ustr_row (pt it ty e : TypeId) (hp : P.underlying pt = some (.pointer e)) (hc : P.cellsOf e = 1) (g cells : Nat) (hsh : w.shape? g = some (e, cells)) (l : List Int) (h0 : l ≠ []) (hn : l.length ≤ cells) (h63 : l.length ≤ 9223372036854775807)
    (hcell : ∀ (j : Nat) (x : Int), l[j]? = some x → w.cell? ((⟨g, 0, none⟩ : Addr).add j) = some (.int .u8 x)) :
    (Builtin.unsafeString_ #[pt, it] ty #[.pointer (some ⟨g, 0, none⟩), .int .i64 l.length]).run P w = .ok (.string (strOfNums l)) (w.freeze ⟨g, 0, none⟩ l.length) := by
  have hl : l.length ≠ 0 := by simpa using h0
  have hlb := loadBytes_ints (P := P) (w := w) l ⟨g, 0, none⟩ .empty hcell
  have hlies := Lib.liesAt_bytes (P := P) hc (cells / P.cellsOf e) l.length (by rw [hc]; simpa using hn)
  have h63' : ¬ (9223372036854775807 : Int) < (l.length : Int) := by omega
  have hdef : Builtin.unsafeString_ #[pt, it] ty #[.pointer (some ⟨g, 0, none⟩), .int .i64 l.length] =
      (do
        let n ← asInt (.int .i64 l.length)
        if n < 0 then runtimePanic (.error "unsafe.String: len out of range")
        if n > IntKind.i64.max then unsupported (.unsafePointer "String: a length above the largest int")
        if n = 0 then pure (.string .empty)
        else if ← variablesAt ⟨g, 0, none⟩ (← elemOf pt) n.toNat then do
          let s ← loadBytes ⟨g, 0, none⟩ .empty n.toNat
          freeze ⟨g, 0, none⟩ n.toNat
          pure (.string s)
        else unsupported (.unsafePointer "String: not so many bytes at ptr")) := rfl
  rw [hdef]
  have hmax : IntKind.i64.max = 9223372036854775807 := rfl
  have e0 : ¬ ((l.length : Int) < 0) := by omega
  have e1 : ¬ ((l.length : Int) = 0) := by omega
  simp [asInt, asIntOf, hmax, h63', e0, e1, hl, h0, variablesAt, viewAt, hsh, elemOf, run_underlying hp, hlies, hlb, freeze, Sem.run, Result.andThen, strOfNums]
theorem op_sdata (hk : KnD n ds a e) (ht : TabOK P T) {el c : Nat} {x : Operand} {xs : List Int} {ts : Array TypeId} (hu : find T.und ty = some (.pointer el)) (hx : evo e x = some (.slice A xs.length c)) (hown : Ft (Own (encInt .u8) el (.slice A xs.length c) xs) w o L)
    (h : ∀ p w' o', St [] w o w' o' → (xs = [] ∨ p = A) → K (a.put d (.pointer p)) w') :
    (Oper.mk d (.call { callee := .builtin .unsafeSliceData, args := #[x], argTypes := ts }) ty pos af gd).wpIn (WF ρ) 0 P a w K Q := by
  have hex : ∀ (v : Value) (w' : World), (Builtin.unsafeSliceData_ ts ty #[.slice A xs.length c]).run P w = .ok v w' → (execOp a.eval (Oper.mk d (.call { callee := .builtin .unsafeSliceData, args := #[x], argTypes := ts }) ty pos af gd)).run P w = .ok (.value v) w' := by
    intro v w' hr
    simp [execOp, resolve, invoke, builtin, hk.ev hx, hr]
  rcases hown.now.2 with ⟨hv, h0⟩ | ⟨g, cap, cur, hv, _, hh, hcap, _, _, _⟩
  · injection hv with hA _ _
    subst hA
    exact op_of_run (hex _ _ (Lib.run_unsafeSliceData_nil w ts ty _ c)) (h none w o (St.refl _ _ _) (.inr rfl))
  · injection hv with hA _ hc
    subst hA; subst hc
    by_cases hc0 : c = 0
    · subst hc0
      have hxs : xs = [] := List.eq_nil_of_length_eq_zero (by omega)
      refine op_of_run (hex _ _ (Lib.run_unsafeSliceData_zero w ts ty el (ht.u hu) ⟨g, 0, none⟩ xs.length (el, cur.size) (by simp [World.shape?, hh]))) (h _ _ _ (St.alloc [] w o _ 0) (.inl hxs))
    · exact op_of_run (hex _ _ (Lib.run_unsafeSliceData_row w ts ty ⟨g, 0, none⟩ _ c hc0)) (h _ w o (St.refl _ _ _) (.inr rfl))
theorem freeze_st {g k : Nat} (hL : o g = L) : St [L] w o (w.freeze ⟨g, 0, none⟩ k) o := by
  unfold World.freeze
  split
  · exact St.refl _ _ _
  · exact ⟨rfl, rfl, rfl, by simp, fun _ _ _ => rfl, fun c _ hc => by
      have : c ≠ g := fun e => hc (by rw [e, hL]; simp)
      simp only [Array.getElem?_modify, if_neg (Ne.symm this)]⟩
theorem op_ustr (hk : KnD n ds a e) (ht : TabOK P T) {pt it el c b2 : Nat} {z : Value} {x y : Operand} {xs : List Int} {p : Option Addr} (hu : find T.und pt = some (.pointer el)) (hi : find T.inf el = some (1, b2, z)) (hx : evo e x = some (.pointer p)) (hy : evo e y = some (.int .i64 (xs.length : Int))) (hp : xs = [] ∨ p = A)
    (hown : Ft (Own (encInt .u8) el (.slice A xs.length c) xs) w o L)
    (h : ∀ w', St [L] w o w' o → K (a.put d (.string (strOfNums xs))) w') :
    (Oper.mk d (.call { callee := .builtin .unsafeString, args := #[x, y], argTypes := #[pt, it] }) ty pos af gd).wpIn (WF ρ) 0 P a w K Q := by
  have hex : ∀ (v : Value) (w' : World), (Builtin.unsafeString_ #[pt, it] ty #[.pointer p, .int .i64 (xs.length : Int)]).run P w = .ok v w' → (execOp a.eval (Oper.mk d (.call { callee := .builtin .unsafeString, args := #[x, y], argTypes := #[pt, it] }) ty pos af gd)).run P w = .ok (.value v) w' := by
    intro v w' hr
    simp [execOp, resolve, invoke, builtin, hk.ev hx, hk.ev hy, hr]
  by_cases h0 : xs = []
  · subst h0
    exact op_of_run (hex _ _ (Lib.run_unsafeString_none w pt it ty p)) (h w (St.refl _ _ _))
  · obtain rfl : p = A := hp.resolve_left h0
    have hn0 : xs.length ≠ 0 := by simpa using h0
    obtain ⟨i, hinf, his, _, _⟩ := ht.i hi
    rcases hown.now.2 with ⟨hv, h1⟩ | ⟨g, cap, cur, hv, _, hh, hcap, hmax, h3, h4⟩
    · exact absurd h1 hn0
    · injection hv with hA _ hc
      subst hA
      have hL : o g = L := Own.lab hown g rfl
      have hce : P.cellsOf el = 1 := by simp [Program.cellsOf, hinf, his]
      have hrd := Own.rd hown.now (by omega)
      obtain ⟨ad, had, hcell⟩ := hrd
      injection had with had
      subst had
      have hsz : xs.length ≤ cur.size := by
        have : (xs.flatMap (encInt .u8).f).length = xs.length * 1 := flat_len _ _
        have h5 := congrArg List.length h4
        simp only [List.length_take, Array.length_toList] at h5
        have hen : (encInt .u8).sz = 1 := rfl
        rw [hen] at h5
        omega
      refine op_of_run (hex _ _ (run_ustr_row (P := P) (w := w) pt it ty el (ht.u hu) hce g cur.size (by simp [World.shape?, hh]) xs h0 hsz (by simp only [maxLen] at hmax; omega) fun j x hx => ?_)) (h _ (freeze_st hL))
      have := hcell j x hx 0 (.int .u8 x) rfl
      have e1 : ((⟨g, 0, none⟩ : Addr).add (j * (encInt .u8).sz)).add 0 = (⟨g, 0, none⟩ : Addr).add j := by
        show ((⟨g, 0, none⟩ : Addr).add (j * 1)).add 0 = _
        simp [Addr.add]
      rw [e1] at this
      exact this
end
end Go.Proofs.XC

set_option linter.unusedSimpArgs false
set_option linter.unusedVariables false
namespace Go.Proofs.XC
open Go

/-! ### A row that is own where a test says so; else it stands on its label, or is frozen -/
def CO {α : Type} (E : Enc α) (t : TypeId) (A : Option Addr) (c : Nat) (xs : List α) (b : Bool) (w : World) (o : Nat → Nat) (L F : Nat) : Prop :=
  (b = true → Ft (Own E t (.slice A xs.length c) xs) w o L) ∧ (Ft (RdC E A xs) w o L ∨ Ft (RdC E A xs) w o F)
theorem RdC.nilr {α : Type} (E : Enc α) (A : Option Addr) (w : World) : RdC E A ([] : List α) w := fun h => absurd h (by simp)
theorem St.closeMM_ft {P : World → Prop} {w W : World} {oi o of : Nat → Nat} {MM : List Nat} {l L : Nat} (h : St MM w oi W of) (f : Ft P W of l) {ρ : Nat → Nat} (hl : l ∈ MM) (hρ : ρ l = L) : Ft P W (cl w oi o MM ρ of) L :=
  f.mono fun b hb _ => by
    by_cases hlt : b < w.heap.size ∧ oi b ∉ MM
    · exact absurd (by rw [← h.lab b hlt.1 hlt.2, hb]; exact hl) hlt.2
    · unfold cl; rw [if_neg hlt, hb, hρ]
section
variable {α : Type} {E : Enc α} {t : TypeId} {A : Option Addr} {c : Nat} {xs : List α} {b : Bool} {w w' : World} {o o' : Nat → Nat} {L F L' F' : Nat} {M : List Nat}
theorem CO.conv (h : CO E t A c xs b w o L F) (h1 : ∀ P : World → Prop, Ft P w o L → Ft P w' o' L') (h2 : ∀ P : World → Prop, Ft P w o F → Ft P w' o' F') : CO E t A c xs b w' o' L' F' :=
  ⟨fun hb => h1 _ (h.1 hb), h.2.elim (fun f => .inl (h1 _ f)) (fun f => .inr (h2 _ f))⟩
theorem CO.st (h : CO E t A c xs b w o L F) (s : St M w o w' o') (hL : L ∉ M ∧ F ∉ M) : CO E t A c xs b w' o' L F := h.conv (fun _ f => f.st s hL.1) (fun _ f => f.st s hL.2)
theorem CO.relab (h : CO E t A c xs b w o L F) (r : Nat → Nat) (hr : (r L, r F) = (L', F')) : CO E t A c xs b w (fun b => r (o b)) L' F' :=
  h.conv (fun _ f => f.relab r (Prod.mk.inj hr).1) (fun _ f => f.relab r (Prod.mk.inj hr).2)
theorem CO.own (h : CO E t A c xs true w o L F) : Ft (Own E t (.slice A xs.length c) xs) w o L := h.1 rfl
theorem CO.of_own (f : Ft (Own E t (.slice A xs.length c) xs) w o L) (b : Bool) (F : Nat) : CO E t A c xs b w o L F := ⟨fun _ => f, .inl (f.imp fun _ h => Own.rd h)⟩
theorem CO.of_rd (f : Ft (RdC E A xs) w o F) (L : Nat) : CO E t A c xs false w o L F := ⟨fun h => (by cases h), .inr f⟩
theorem CO.weak (h : CO E t A c xs b w o L F) : CO E t A c xs false w o L F := ⟨fun h => (by cases h), h.2⟩
theorem CO.nil (E : Enc α) (t : TypeId) (b : Bool) (w : World) (o : Nat → Nat) (L F : Nat) : CO E t none 0 ([] : List α) b w o L F :=
  CO.of_own (Ft.of_all (fun _ => Own.nil _ _ _) _ _ _) b F
theorem CO.rd (h : CO E t A c xs b w o L F) : Ft (RdC E A xs) w o L ∨ Ft (RdC E A xs) w o F := h.2
theorem NOwn.ofnil {β : Type} {D : ND β} {et : TypeId} {ys : List β} (h : NRd D none ys w o L F) (w' : World) (o' : Nat → Nat) (L' F' : Nat) : NOwn D et none 0 ys w' o' L' F' := by
  rw [h.nul]; exact NOwn.nil _ _ _ _ _ _
end
end Go.Proofs.XC

set_option linter.unusedSimpArgs false
set_option linter.unusedVariables false
namespace Go.Proofs.XC
open Go

/-! ### The library's contracts, in the calculus' words -/
section
variable {w w' : World} {o : Nat → Nat}
theorem St.below (h : RowKit.Below w.heap.size w w') : St [] w o w' o := ⟨h.os, h.tape, h.output, h.size, fun _ _ _ => rfl, fun b hb _ => h.block b hb⟩
theorem St.drewN (n : Nat) : St [] w o (w.drewN n) o := ⟨rfl, rfl, rfl, Nat.le_refl _, fun _ _ _ => rfl, fun _ _ _ => rfl⟩
theorem St.grow (n : Nat) (os : Array Obj) : St [] w o (Go.Sort.grow (w.drewN n) os) o := by
  refine ⟨rfl, rfl, rfl, ?_, fun _ _ _ => rfl, fun b hb _ => ?_⟩
  · show w.heap.size ≤ (w.heap ++ os).size
    rw [Array.size_append]; omega
  · show (w.heap ++ os)[b]? = _
    rw [Array.getElem?_append_left hb]
theorem St.bytes (e : TypeId) (s : ByteArray) : St [] w o (Lib.bytesWorld w e s) o := St.below (Lib.bytesWorld_below w e s)
end
/-! ### Variables of the library's own -/
def GInt (g : Nat) (W : World) : Prop := ∃ m, W.cell? ⟨g, 0, none⟩ = some (.int .i64 m)
def GIface (g : Nat) (W : World) : Prop := ∃ t p, W.cell? ⟨g, 0, none⟩ = some (.iface t p)
theorem cell_keep {W W' : World} {g : Nat} {v : Value} (h : W.cell? ⟨g, 0, none⟩ = some v) (hk : g < W.heap.size → W'.heap[g]? = W.heap[g]?) : W'.cell? ⟨g, 0, none⟩ = some v := by
  have hb := hk (cell_lt h)
  rw [← h]
  unfold World.cell?
  simp only [hb]
theorem GInt.ft {g : Nat} {W : World} (h : GInt g W) : Ft (GInt g) W (fun _ => 0) 0 := fun W' hw => let ⟨m, hm⟩ := h; ⟨m, cell_keep hm fun hl => hw g rfl hl⟩
theorem GIface.ft {g : Nat} {W : World} (h : GIface g W) : Ft (GIface g) W (fun _ => 0) 0 := fun W' hw => let ⟨t, p, hm⟩ := h; ⟨t, p, cell_keep hm fun hl => hw g rfl hl⟩
def GTab (P : Program) (nm : String) (k : IntKind) (zs : List Int) (W : World) : Prop := Lib.TabIs P W nm k zs
theorem var_keep {P : Program} {W W' : World} {nm : String} {g : Nat} {cs : Array Value} (hg : P.globalNamed nm = some g) (h : W.var? P nm = some cs) (hk : g < W.heap.size → W'.heap[g]? = W.heap[g]?) : W'.var? P nm = some cs := by
  have h' := h
  unfold World.var? at h
  rw [hg] at h
  simp only [Option.bind_some] at h
  have hl : g < W.heap.size := by
    by_cases hl : g < W.heap.size
    · exact hl
    · rw [Array.getElem?_eq_none (by omega)] at h; cases h
  rw [← h']
  unfold World.var?
  rw [hg]
  simp only [Option.bind_some, hk hl]
theorem GTab.ft {P : Program} {nm : String} {k : IntKind} {zs : List Int} {g : Nat} {W : World} (hg : P.globalNamed nm = some g) (h : GTab P nm k zs W) : Ft (GTab P nm k zs) W (fun _ => 0) 0 := fun W' hw => var_keep hg h fun hl => hw g rfl hl
section
variable {P : Program} {T : Tab} {w : World}
theorem laid_at {nm : String} {D : DataW Unit} {g t : Nat} (hg : P.globalNamed nm = some g) (hty : (P.globals[g]?).map (·.type) = some t) :
    ∀ {l : List (String × DataW Unit)} {ps : List MemPlace}, (nm, D) ∈ l → DataW.LaidVars P w l ps → ∃ cs f p, w.var? P nm = some cs ∧ DataW.trod (fun _ => ()) P w 0 (fun _ => true) false f t cs.toList = some (D, p)
  | [], _, h, _ => by cases h
  | (n', D') :: r, ps, h, hv => by
    obtain ⟨g0, t0, cs0, f0, p0, q0, hg0, ht0, hv0, hd0, hr, _⟩ := hv
    rcases List.mem_cons.1 h with h | h
    · injection h with h1 h2
      subst h1; subst h2
      rw [hg] at hg0; injection hg0 with hg0; subst hg0
      rw [hty] at ht0; injection ht0 with ht0; subst ht0
      exact ⟨cs0, f0, p0, hv0, hd0⟩
    · exact laid_at hg hty h hr
theorem laid_iface {nm name : String} {d : DataW Unit} {g t : Nat} {ms : Array (String × TypeId)} (hg : P.globalNamed nm = some g) (hty : (P.globals[g]?).map (·.type) = some t) (hu : P.underlying t = some (.interface ms)) {l : List (String × DataW Unit)} {ps : List MemPlace}
    (h : (nm, .iface name d) ∈ l) (hv : DataW.LaidVars P w l ps) : GIface g w := by
  obtain ⟨cs, f, p, hv0, hd0⟩ := laid_at hg hty h hv
  obtain ⟨_, u, v, hc, _, _⟩ := iface_of_trod hu hd0
  have h0 := World.var?_cell hg hv0 0
  have e : cs[0]? = some (.iface u v) := by rw [← Array.getElem?_toList, hc]; rfl
  exact ⟨u, v, by rw [h0]; exact e⟩
theorem laid_tab (ht : TabOK P T) {nm : String} {D : DataW Unit} {g t dd : Nat} {k : IntKind} {zs : List Int} (hg : P.globalNamed nm = some g) (hty : (P.globals[g]?).map (·.type) = some t) (hD : laidP T dd t D = some (zs.map fun z => Value.int k z))
    {l : List (String × DataW Unit)} {ps : List MemPlace} (h : (nm, D) ∈ l) (hv : DataW.LaidVars P w l ps) : GTab P nm k zs w := by
  obtain ⟨cs, f, p, hv0, hd0⟩ := laid_at hg hty h hv
  have hcs := laidP_sound ht dd _ _ _ _ _ _ hD hd0
  unfold GTab Lib.TabIs
  rw [hv0, ← hcs]
end
/-! ### An error that is nil or isn't -/
def errV (t : Nat) (b : Bool) (N : Nat) : Value := bif b then .nilIface else .iface t (.pointer (some ⟨N, 0, none⟩))
section
variable {P : Program} {T : Tab} {w : World} {e : Env} {d : Option Tmp} {ty : TypeId} {pos : String} {af : Array Edge} {gd : Option (Nat × Bool)}
theorem run_equal_err (ht : TabOK P T) {t te N : Nat} {b : Bool} {ms : _} (hu : find T.und t = some (.interface ms)) : (Op.equal t (errV te b N) .nilIface).run P w = .ok b w := by
  have hr := run_underlying' (w := w) (ht.u hu)
  refine equal_of fun n => ?_
  cases b <;> simp [Op.equalIn, hr, errV]
theorem ask_errnil (ht : TabOK P T) {t te N : Nat} {b : Bool} {ms : _} {x : Operand} {z : TypeId} (hu : find T.und t = some (.interface ms)) (hx : evo e x = some (errV te b N)) {W : World} :
    AskIs P e (Oper.mk d (.binOp .eql t x (.const .nilIface) z) ty pos af gd) (.bool b) W := by
  intro ρ hρ
  have h3 : (do eqGuard .eql t x (.const .nilIface) (errV te b N) .nilIface; binOp .eql t (errV te b N) .nilIface).run P W = .ok (.bool b) W := by
    cases b
    · exact run_eq_of (x := x) (y := .const .nilIface) (a := .iface te (.pointer (some ⟨N, 0, none⟩))) ⟨rfl, rfl⟩ (run_equal_err (b := false) ht hu)
    · exact run_eq_of (x := x) (y := .const .nilIface) (a := .nilIface) ⟨rfl, by cases x <;> rfl⟩ (run_equal_err (b := true) (te := te) (N := N) ht hu)
  have h4 := hρ _ _ hx
  have h5 := hρ (.const .nilIface) .nilIface rfl
  simp only [execOp, h4, h5]
  simp only [Sem.run_bind] at h3 ⊢
  simp [h3]
end
end Go.Proofs.XC
namespace Go
variable {H : Type} {enc : TypeId × Value → H}
/-- The wrap of a row whose variables are laid, with the world's shape at hand. -/
theorem returnsInHanded_of_change_and_shaped {a : Assume} {C : Checked} {os : Os} {f : FuncId} {fn : Func} {s : ChangeSpec} {conds : List PathCond} {apart fresh handsOn again : Bool} {X : World → Array Value → Prop}
    (hX : ∀ (w w' : World) (args : Array Value), w.heap = w'.heap → X w args → X w' args)
    (own : ownKnob C.prog.godebug = none) (started : os.Started) (noInit : C.prog.inits.idxOf? f = none) (hfn : C.prog.funcs[f]? = some fn)
    (witness : ∃ (w : World) (tape : Tape) (i : Input), w.os = os ∧ (w.forCall tape i).Shaped C.prog ∧ i.vars = [] ∧ Input.okWide C.prog (w.forCall tape i) .any w.heap.size f i ∧
      ((s.pre enc C.prog fn conds apart (w.forCall tape i).memory i.args ∧ X (w.forCall tape i).memory i.args) ∧ sizedMet enc C.prog fn (OpenSpec.ofChange s) apart (w.forCall tape i).memory i.args) ∧ a.holds C.prog (lone (Frame.enter C.prog f i.args .normal) [] (w.forCall tape i)))
    (contract : ∀ (W : World) (base : Nat) (args : Array Value) (ds gs : List (DataW H)) (before : List MemPlace),
      (∀ (j : Nat) t v, fn.params[j]? = some t → args[j]? = some v → Value.okWide C.prog W .any base t v) →
      DataW.Whole enc C.prog fn.params.toList s.vars apart W args.toList ds gs before →
      conds.all (PathCond.test C.prog ⟨fn.params.toList, ds, s.plain.varTypes C.prog, gs⟩) = true →
      (DataW.weightsEach C.prog (fn.params.toList ++ s.plain.varTypes C.prog) (ds ++ gs)).all (· ≤ reachBytes) = true → X W args →
      W.ShapedOpen C.prog →
      a.holds C.prog (lone (Frame.enter C.prog f args .normal) [] W) →
      Calls C.prog f args W fun e W' => ∃ v, e = .returned v ∧ s.post enc C.prog fn apart fresh handsOn again W args v W') :
    ReturnsInHanded a C os f .any (fun w args => (s.pre enc C.prog fn conds apart w args ∧ X w args) ∧ sizedMet enc C.prog fn (OpenSpec.ofChange s) apart w args) (s.post enc C.prog fn apart fresh handsOn again) := by
  refine returnsInHanded_of_calls own started noInit witness ?_
  intro w tape i _ hsh _ hok hpre hholds
  obtain ⟨_, _, _, fn', hfn', _, _, _, _, hval⟩ := hok
  have e : fn' = fn := Option.some.inj (hfn'.symm.trans hfn)
  subst e
  obtain ⟨⟨⟨ds, gs, before, hw, hc⟩, hx⟩, hz⟩ := hpre
  have hw' := DataW.Whole.of_heap (w' := w.forCall tape i) (by rfl) hw
  refine (contract (w.forCall tape i) w.heap.size i.args ds gs before hval hw' hc (hz.weights hw) (hX _ _ _ (by rfl) hx) hsh hholds).mono fun e W' ⟨v, he, hp⟩ => ?_
  subst he
  exact ChangeSpec.post_blind hp
end Go

set_option linter.unusedSimpArgs false
set_option linter.unusedVariables false
namespace Go.Proofs.XC
open Go Go.MapKept

/-! ### Maps whose elements hold rows: those stand on blocks of one label, that nothing turns -/
section
variable {β γ : Type}
theorem mfind_map (f : β → γ) (k : Int) : ∀ l : List (Int × β), mfind (l.map fun p => (p.1, f p.2)) k = (mfind l k).map f
  | [] => rfl
  | p :: l => by
    simp only [List.map_cons, mfind]
    by_cases h : p.1 = k
    · rw [if_pos h, if_pos h]; rfl
    · rw [if_neg h, if_neg h, mfind_map f k l]
theorem mput_map (f : β → γ) (k : Int) (v : β) : ∀ l : List (Int × β), mput (l.map fun p => (p.1, f p.2)) k (f v) = (mput l k v).map fun p => (p.1, f p.2)
  | [] => rfl
  | p :: l => by
    simp only [List.map_cons, mput]
    by_cases h : p.1 = k
    · rw [if_pos h, if_pos h]; rfl
    · rw [if_neg h, if_neg h, mput_map f k v l]; rfl
theorem mdel_map (f : β → γ) (k : Int) : ∀ l : List (Int × β), mdel (l.map fun p => (p.1, f p.2)) k = (mdel l k).map fun p => (p.1, f p.2)
  | [] => rfl
  | p :: l => by
    simp only [List.map_cons, mdel]
    by_cases h : p.1 = k
    · rw [if_pos h, if_pos h]
    · rw [if_neg h, if_neg h, mdel_map f k l]; rfl
theorem mput_mem {k : Int} {v : β} : ∀ {l : List (Int × β)} {p : Int × β}, p ∈ mput l k v → p = (k, v) ∨ p ∈ l
  | [], p, h => .inl (by simpa [mput] using h)
  | q :: l, p, h => by
    rw [mput] at h
    by_cases hk : q.1 = k
    · rw [if_pos hk] at h
      rcases List.mem_cons.1 h with h | h
      · exact .inl h
      · exact .inr (List.mem_cons_of_mem _ h)
    · rw [if_neg hk] at h
      rcases List.mem_cons.1 h with h | h
      · exact .inr (by rw [h]; simp)
      · rcases mput_mem h with h | h
        · exact .inl h
        · exact .inr (List.mem_cons_of_mem _ h)
theorem mdel_mem {k : Int} : ∀ {l : List (Int × β)} {p : Int × β}, p ∈ mdel l k → p ∈ l
  | [], p, h => by cases h
  | q :: l, p, h => by
    rw [mdel] at h
    by_cases hk : q.1 = k
    · rw [if_pos hk] at h; exact List.mem_cons_of_mem _ h
    · rw [if_neg hk] at h
      rcases List.mem_cons.1 h with h | h
      · rw [h]; simp
      · exact List.mem_cons_of_mem _ (mdel_mem h)
theorem mfind_mem {k : Int} {v : β} : ∀ {l : List (Int × β)}, mfind l k = some v → ∃ p ∈ l, p.2 = v
  | [], h => by cases h
  | q :: l, h => by
    rw [mfind] at h
    by_cases hk : q.1 = k
    · rw [if_pos hk] at h; injection h with h; exact ⟨q, by simp, h⟩
    · rw [if_neg hk] at h
      obtain ⟨p, h1, h2⟩ := mfind_mem h
      exact ⟨p, List.mem_cons_of_mem _ h1, h2⟩
namespace M
theorem es_map (f : β → γ) (m : M β) : (m.map f).es = m.es.map fun p => (p.1, f p.2) := by
  obtain ⟨l⟩ := m
  cases l <;> rfl
theorem length_map (f : β → γ) (m : M β) : (m.map f).length = m.length := by unfold M.length; rw [es_map, List.length_map]
theorem isNil_map (f : β → γ) (m : M β) : (m.map f).isNil = m.isNil := by
  obtain ⟨l⟩ := m
  cases l <;> rfl
theorem has_map (f : β → γ) (m : M β) (k : Int) : (m.map f).has k = m.has k := by
  unfold M.has; rw [es_map, mfind_map]; cases mfind m.es k <;> rfl
theorem get_map (f : β → γ) (z : β) (m : M β) (k : Int) : (m.map f).get (f z) k = f (m.get z k) := by
  unfold M.get; rw [es_map, mfind_map]; cases mfind m.es k <;> rfl
theorem put_map (f : β → γ) (m : M β) (k : Int) (v : β) : (m.map f).put k (f v) = (m.put k v).map f := by
  unfold M.put; rw [es_map, mput_map]; rfl
theorem del_map (f : β → γ) (m : M β) (k : Int) : (m.map f).del k = (m.del k).map f := by
  obtain ⟨l⟩ := m
  cases l with
  | none => rfl
  | some l => exact congrArg (fun x => (⟨some x⟩ : M γ)) (mdel_map f k l)
theorem wipe_map (f : β → γ) (m : M β) : (m.map f).wipe = m.wipe.map f := by
  obtain ⟨l⟩ := m
  cases l <;> rfl
def keys (m : M β) : List Int := m.es.map (·.1)
theorem keys_map (f : β → γ) (m : M β) : (m.map f).keys = m.keys := by unfold M.keys; rw [es_map, List.map_map]; rfl
end M
end
def InnM {α : Type} (D : ND α) (g : M D.R) (w : World) : Prop := ∀ p ∈ g.es, D.inn p.2 w
/-- The map at A, whose elements' rows are read. -/
def MpN {α : Type} (D : ND α) (ag : Bool) (A : Option Addr) (m : M α) (w : World) (o : Nat → Nat) (L F : Nat) : Prop :=
  ∃ g : M D.R, m = g.map D.val ∧ Ft (MpF D.E ag A g) w o L ∧ Ft (InnM D g) w o F
/-- What a lookup gives. -/
def LookIs (P : Program) (mt : Nat) (mV : Value) (k : Int) (v : Value) (hs : Bool) (w : World) : Prop :=
  ∀ ok : Bool, (Instr.lookup mt mV (.int .i64 k) ok).run P w = .ok (if ok then .tuple #[v, .bool hs] else v) w
section
variable {ρ : Option Nat} {ds : List Deferred} {P : Program} {T : Tab} {n : Nat} {a : Act} {e : Env} {w w' W : World} {o o' : Nat → Nat} {L L' F F' : Nat} {Mm : List Nat} {Q : Exit → Act → World → Prop} {K : Act → World → Prop}
  {d : Option Tmp} {ty : TypeId} {pos : String} {af : Array Edge} {gd : Option (Nat × Bool)} {α : Type} {D : ND α} {ag : Bool} {A : Option Addr} {m : M α}
theorem MpN.conv (h : MpN D ag A m w o L F) (h1 : ∀ P : World → Prop, Ft P w o L → Ft P w' o' L') (h2 : ∀ P : World → Prop, Ft P w o F → Ft P w' o' F') : MpN D ag A m w' o' L' F' := by
  obtain ⟨g, e1, e2, e3⟩ := h
  exact ⟨g, e1, h1 _ e2, h2 _ e3⟩
theorem MpN.st (h : MpN D ag A m w o L F) (s : St Mm w o w' o') (hL : L ∉ Mm ∧ F ∉ Mm) : MpN D ag A m w' o' L F := h.conv (fun _ f => f.st s hL.1) (fun _ f => f.st s hL.2)
theorem MpN.relab (h : MpN D ag A m w o L F) (r : Nat → Nat) (hr : (r L, r F) = (L', F')) : MpN D ag A m w (fun b => r (o b)) L' F' :=
  h.conv (fun _ f => f.relab r (Prod.mk.inj hr).1) (fun _ f => f.relab r (Prod.mk.inj hr).2)
theorem MpN.now (h : MpN D ag A m w o L F) : MpN D ag A m w o L F := h
theorem InnM.nil (D : ND α) (w : World) (o : Nat → Nat) (F : Nat) {g : M D.R} (hg : g.es = []) : Ft (InnM D g) w o F := Ft.of_all (fun _ p hp => by rw [hg] at hp; cases hp) _ _ _
theorem MpN.nil (w : World) (o : Nat → Nat) (L F : Nat) : MpN D ag none M.nil w o L F :=
  ⟨M.nil, rfl, Ft.of_all (fun _ => MpF.nil _ _ _) _ _ _, InnM.nil D w o F rfl⟩
theorem MpN.nul (h : MpN D ag A m w o L F) : A.isNone = m.isNil := by
  obtain ⟨g, e1, e2, e3⟩ := h
  rw [e1, M.isNil_map]; exact e2.now.nul
theorem ask_mlenN (ht : TabOK P T) {mt kt et : Nat} (hm : find T.und mt = some (.map kt et)) (h : MpN D ag A m w o L F) {x : Operand} (hx : evo e x = some (mv A)) :
    AskIs P e (Oper.mk d (.call { callee := .builtin .len, args := #[x], argTypes := #[mt] }) ty pos af gd) (.int .i64 (m.length : Int)) w := by
  obtain ⟨g, e1, e2, e3⟩ := h
  rw [e1, M.length_map]; exact ask_mlen ht hm e2.now hx
theorem ask_mnilN (ht : TabOK P T) {mt kt et : Nat} (hm : find T.und mt = some (.map kt et)) (h : MpN D ag A m w o L F) {x : Operand} (hx : evo e x = some (mv A)) :
    AskIs P e (Oper.mk d (.binOp .eql mt x (.const (.map none)) mt) ty pos af gd) (.bool m.isNil) w := by
  obtain ⟨g, e1, e2, e3⟩ := h
  rw [e1, M.isNil_map]; exact ask_mnil ht hm e2.now hx
theorem op_mmakeN {t : Nat} {r : Option Operand} (hr : r = none) (D : ND α) (ag : Bool) (F L : Nat)
    (h : ∀ b w' o', St [] w o w' o' → MpN D ag (some ⟨b, 0, none⟩) (M.new : M α) w' o' L F → K (a.put d (mv (some ⟨b, 0, none⟩))) w') :
    (Oper.mk d (.makeMap t r) ty pos af gd).wpIn (WF ρ) 0 P a w K Q :=
  op_mmake hr D.E ag L fun b w' o' hs hf => h b w' o' hs ⟨M.new, rfl, hf, InnM.nil D w' o' F rfl⟩
theorem op_mputN (ht : TabOK P T) (hk : KnD n ds a e) {mt kt et : Nat} {x y z : Operand} {k : Int} {v : α} {r : D.R}
    (hm : find T.und mt = some (.map kt et)) (hkt : find T.und kt = some (.int .i64)) (hx : evo e x = some (mv A)) (hy : evo e y = some (.int .i64 k)) (hr : Ft (D.inn r) w o F) (hv : D.val r = v) (hz : evo e z = some (ev D.E ag r))
    (hf : MpN D ag A m w o L F) (hF : F ≠ L) (hn : m.isNil = false)
    (h : ∀ w', St [L] w o w' o → MpN D ag A (m.put k v) w' o L F → K (a.put d undef) w') :
    (Oper.mk d (.mapUpdate mt x y z) ty pos af gd).wpIn (WF ρ) 0 P a w K Q := by
  obtain ⟨g, e1, e2, e3⟩ := hf
  subst hv
  refine op_mput ht hk hm hkt hx hy hz e2 (by rw [← M.isNil_map D.val, ← e1]; exact hn) fun w' hs hf' => h w' hs ⟨g.put k r, by rw [e1, M.put_map], hf', ?_⟩
  have hF' : F ∉ [L] := by simp [hF]
  exact ((e3.st hs hF').and (hr.st hs hF')).imp fun W hW p hp => by
    rcases mput_mem (show p ∈ mput g.es k r from hp) with h1 | h1
    · rw [h1]; exact hW.2
    · exact hW.1 p h1
theorem op_mwipeN (ht : TabOK P T) (hk : KnD n ds a e) {mt kt et : Nat} {x : Operand}
    (hm : find T.und mt = some (.map kt et)) (hx : evo e x = some (mv A)) (hf : MpN D ag A m w o L F) (hF : F ≠ L)
    (h : ∀ w', St [L] w o w' o → MpN D ag A m.wipe w' o L F → K (a.put d (.tuple #[])) w') :
    (Oper.mk d (.call { callee := .builtin .clear, args := #[x], argTypes := #[mt] }) ty pos af gd).wpIn (WF ρ) 0 P a w K Q := by
  obtain ⟨g, e1, e2, e3⟩ := hf
  refine op_mwipe ht hk hm hx e2 fun w' hs hf' => h w' hs ⟨g.wipe, by rw [e1, M.wipe_map], hf', InnM.nil D w' o F ?_⟩
  obtain ⟨l⟩ := g
  cases l <;> rfl
theorem op_mdelN (ht : TabOK P T) (hk : KnD n ds a e) {mt kt et : Nat} {x y : Operand} {k : Int}
    (hm : find T.und mt = some (.map kt et)) (hkt : find T.und kt = some (.int .i64)) (hx : evo e x = some (mv A)) (hy : evo e y = some (.int .i64 k)) (hf : MpN D ag A m w o L F) (hF : F ≠ L)
    (h : ∀ w', St [L] w o w' o → MpN D ag A (m.del k) w' o L F → K (a.put d (.tuple #[])) w') :
    (Oper.mk d (.call { callee := .builtin .delete, args := #[x, y], argTypes := #[mt, kt] }) ty pos af gd).wpIn (WF ρ) 0 P a w K Q := by
  obtain ⟨g, e1, e2, e3⟩ := hf
  refine op_mdel ht hk hm hkt hx hy e2 fun w' hs hf' => h w' hs ⟨g.del k, by rw [e1, M.del_map], hf', ?_⟩
  have hF' : F ∉ [L] := by simp [hF]
  exact (e3.st hs hF').imp fun W hW p hp => hW p (by
    obtain ⟨l⟩ := g
    cases l with
    | none => cases hp
    | some l => exact mdel_mem hp)
theorem op_mcloneN (hk : KnD n ds a e) {f : FuncId} {fn : Func} {t : Nat} {args : Array Operand} {ats : Array TypeId} (hf : P.funcs[f]? = some fn) (h1 : (fn.name == "runtime.NumGoroutine") = false) (h2 : fn.body.isNone = true) (h3 : Extern.findNext fn = none) (h4 : Extern.find fn = some Extern.MapsClone.clone)
    (hx : allSome (args.toList.map (evo e)) = some [.iface t (mv A)]) (hn : m.isNil = false) (hm : MpN D ag A m w o L F) (L2 : Nat)
    (h : ∀ b w' o', St [] w o w' o' → MpN D ag (some ⟨b, 0, none⟩) m w' o' L2 F → K (a.put d (.iface t (mv (some ⟨b, 0, none⟩)))) w') :
    (Oper.mk d (.call { callee := .value (.func f), args := args, argTypes := ats }) ty pos af gd).wpIn (WF ρ) 0 P a w K Q := by
  obtain ⟨g, e1, e2, e3⟩ := hm
  exact op_mclone hk hf h1 h2 h3 h4 hx (by rw [← M.isNil_map D.val, ← e1]; exact hn) e2 L2 fun b w' o' hs hf' => h b w' o' hs ⟨g, e1, hf', e3.st hs (by simp)⟩
theorem ask_look2 {mt : Nat} {k : Int} {v : Value} {hs : Bool} {mV : Value} (h : LookIs P mt mV k v hs w) {x y : Operand} (hx : evo e x = some mV) (hy : evo e y = some (.int .i64 k)) :
    AskIs P e (Oper.mk d (.lookup mt x y true) ty pos af gd) (.tuple #[v, .bool hs]) w := by
  intro ρ hρ
  have := h true
  simp only [if_true] at this
  simp [execOp, hρ _ _ hx, hρ _ _ hy, this]
theorem ask_look3 {mt : Nat} {k : Int} {v : Value} {hs : Bool} {mV : Value} (h : LookIs P mt mV k v hs w) {x y : Operand} (hx : evo e x = some mV) (hy : evo e y = some (.int .i64 k)) :
    AskIs P e (Oper.mk d (.lookup mt x y false) ty pos af gd) v w := by
  intro ρ hρ
  have := h false
  simp only [Bool.false_eq_true, if_false] at this
  simp [execOp, hρ _ _ hx, hρ _ _ hy, this]
theorem MpN.at (h : MpN D ag A m w o L F) (ht : TabOK P T) {mt kt et s bb : Nat} {z : Value} (hm : find T.und mt = some (.map kt et)) (hkt : find T.und kt = some (.int .i64)) (hz : find T.inf et = some (s, bb, z)) (zr : D.R) (hzx : z = ev D.E ag zr) (hzi : ∀ W, D.inn zr W) (k : Int) :
    ∃ r : D.R, D.val r = m.get (D.val zr) k ∧ Ft (LookIs P mt (mv A) k (ev D.E ag r) (m.has k)) w o L ∧ Ft (D.inn r) w o F := by
  obtain ⟨g, e1, e2, e3⟩ := h
  refine ⟨g.get zr k, by rw [e1, M.get_map], e2.imp fun W hW ok => ?_, e3.imp fun W hW => ?_⟩
  · rw [e1, M.has_map]
    exact run_lookup ht hm hkt hz hzx hW k ok
  · unfold M.get
    cases hf : mfind g.es k with
    | none => exact hzi W
    | some v =>
      obtain ⟨p, h1, h2⟩ := mfind_mem hf
      have := hW p h1
      rw [h2] at this
      exact this
/-- How many a map has. -/
def MSize (A : Option Addr) (k : Nat) (w : World) : Prop := (A = none ∧ k = 0) ∨ ∃ b es ck, A = some ⟨b, 0, none⟩ ∧ w.heap[b]? = some (.map es ck) ∧ es.size = k
theorem MpN.size (h : MpN D ag A m w o L F) : Ft (MSize A m.length) w o L := by
  obtain ⟨g, e1, e2, e3⟩ := h
  refine e2.imp fun W hW => ?_
  rcases hW with ⟨h1, h2⟩ | ⟨b, l, h1, h2, es, ck, hb, hs, he⟩
  · refine .inl ⟨h1, ?_⟩
    rw [e1, M.length_map, h2]; rfl
  · refine .inr ⟨b, es, ck, h1, hb, ?_⟩
    rw [e1, M.length_map, h2]
    exact MapAt.len (b := b) he
theorem ask_mlenS (ht : TabOK P T) {mt kt et k : Nat} (hm : find T.und mt = some (.map kt et)) (h : MSize A k w) {x : Operand} (hx : evo e x = some (mv A)) :
    AskIs P e (Oper.mk d (.call { callee := .builtin .len, args := #[x], argTypes := #[mt] }) ty pos af gd) (.int .i64 (k : Int)) w := by
  intro ρ hρ
  have hu := run_underlying' (w := w) (ht.u hm)
  rcases h with ⟨rfl, rfl⟩ | ⟨b, es, ck, rfl, hb, rfl⟩
  · simp [execOp, resolve, invoke, builtin, Builtin.len_, hρ _ _ hx, hu, mv, goInt]
  · simp [execOp, resolve, invoke, builtin, Builtin.len_, hρ _ _ hx, hu, mv, goInt, MapKept.run_getObj_map hb]
theorem MpN.row {β : Type} {E : Enc β} {m : M (List β)} (h : MpN (dRows E) false A m w o L F) (ht : TabOK P T) {mt kt et s bb : Nat} (hm : find T.und mt = some (.map kt et)) (hkt : find T.und kt = some (.int .i64)) (hz : find T.inf et = some (s, bb, .slice none 0 0)) (k : Int) :
    ∃ A' c, Ft (LookIs P mt (mv A) k (.slice A' (m.get [] k).length c) (m.has k)) w o L ∧ Ft (RdC E A' (m.get [] k)) w o F ∧ (m.get [] k).length ≤ c := by
  obtain ⟨r, e1, e2, e3⟩ := MpN.at h ht hm hkt hz (⟨none, 0, []⟩ : NR β) rfl (fun W => ⟨fun h_ => absurd h_ (by simp), Nat.le_refl _⟩) k
  obtain ⟨A', c, x⟩ := r
  have e : x = m.get [] k := e1
  subst e
  exact ⟨A', c, e2, e3.imp fun W hW => hW.1, e3.now.2⟩
end
/-! ### What comes in some order -/
open Classical in
/-- f's answer, where it is the same for whatever list of p. -/
noncomputable def ordP {γ : Type} (p : List Int → Prop) (f : List Int → Option γ) : Option γ :=
  if h : ∃ r, ∀ l, p l → f l = some r then some h.choose else none
theorem ordP_at {γ : Type} {p : List Int → Prop} {f : List Int → Option γ} {r : γ} (h : ordP p f = some r) {l : List Int} (hl : p l) : f l = some r := by
  unfold ordP at h
  by_cases hx : ∃ r, ∀ l, p l → f l = some r
  · rw [dif_pos hx] at h
    injection h with h
    rw [← h]; exact hx.choose_spec l hl
  · rw [dif_neg hx] at h; cases h
theorem ordP_of {γ : Type} {p : List Int → Prop} {f : List Int → Option γ} {r : γ} (h : ∀ l, p l → f l = some r) (l0 : List Int) (h0 : p l0) : ordP p f = some r := by
  unfold ordP
  have hx : ∃ r, ∀ l, p l → f l = some r := ⟨r, h⟩
  rw [dif_pos hx]
  have := hx.choose_spec l0 h0
  rw [h l0 h0] at this
  rw [← this]
open Classical in
/-- f's answer, where it is the same for whatever element. -/
noncomputable def anyP {γ : Type} (s : List Int) (f : Int → Option γ) : Option γ :=
  if h : ∃ r, ∀ k ∈ s, f k = some r then some h.choose else none
theorem anyP_at {γ : Type} {s : List Int} {f : Int → Option γ} {r : γ} (h : anyP s f = some r) {k : Int} (hk : k ∈ s) : f k = some r := by
  unfold anyP at h
  by_cases hx : ∃ r, ∀ k ∈ s, f k = some r
  · rw [dif_pos hx] at h
    injection h with h
    rw [← h]; exact hx.choose_spec k hk
  · rw [dif_neg hx] at h; cases h
theorem anyP_of {γ : Type} {s : List Int} {f : Int → Option γ} {r : γ} (h : ∀ k ∈ s, f k = some r) (hs : s ≠ []) : anyP s f = some r := by
  unfold anyP
  have hx : ∃ r, ∀ k ∈ s, f k = some r := ⟨r, h⟩
  rw [dif_pos hx]
  obtain ⟨k0, l, rfl⟩ := List.exists_cons_of_ne_nil hs
  have := hx.choose_spec k0 (by simp)
  rw [h k0 (by simp)] at this
  rw [← this]
end Go.Proofs.XC

set_option linter.unusedSimpArgs false
set_option linter.unusedVariables false
namespace Go.Proofs.XC
open Go Go.MapKept Go.Maps Go.Proofs

/-! ### A map's keys, collected -/
/-- What is asked of a map whose keys are collected. -/
def KeysOK {β : Type} (m : M β) : Prop := m.isNil = false ∧ m.length ≤ 1000000000 ∧ ∀ k ∈ m.keys, -9223372036854775808 ≤ k ∧ k ≤ 9223372036854775807
instance {β : Type} (m : M β) : Decidable (KeysOK m) := by unfold KeysOK; infer_instance
theorem insert_perm {H : Type} (x : Lit × DataW H) : ∀ l : List (Lit × DataW H), (DataW.insert x l).Perm (x :: l)
  | [] => List.Perm.refl _
  | y :: r => by
    unfold DataW.insert
    split
    · exact List.Perm.refl _
    · exact ((insert_perm x r).cons y).trans (List.Perm.swap x y r)
theorem sorted_perm {H : Type} : ∀ l : List (Lit × DataW H), (l.foldr DataW.insert []).Perm l
  | [] => List.Perm.refl _
  | x :: l => (insert_perm x _).trans ((sorted_perm l).cons x)
section
variable {P : Program} {w w' : World} {o o' : Nat → Nat} {α β : Type} {D : ND α} {ag : Bool} {A : Option Addr} {m : M α} {E : Enc β}
abbrev anyR : Value → Option (DataW Unit × List MemPlace) := fun _ => some (.nil, [])
theorem wfK {k : Int} (h : -9223372036854775808 ≤ k ∧ k ≤ 9223372036854775807) : (Lit.int .i64 k).wf = true := by
  have e1 : IntKind.i64.min = -9223372036854775808 := by decide
  have e2 : IntKind.i64.max = 9223372036854775807 := by decide
  simp only [Lit.wf, Bool.and_eq_true, decide_eq_true_eq, e1, e2]
  exact h
theorem keyOf64 {t : TypeId} {k : Int} (ht : P.underlying t = some (.int .i64)) (h : -9223372036854775808 ≤ k ∧ k ≤ 9223372036854775807) : keyOf P t (.int .i64 k) = some (.int .i64 k) := by
  have := wfK h
  simp [keyOf, ht, mapKey, this]
theorem ownsMap_of {t : TypeId} {g : M β} {b : Nat} (ht : P.underlying t = some (.int .i64)) (h : MpF E ag (some ⟨b, 0, none⟩) g w) (hK : KeysOK g) :
    ∃ D : DataW Unit, w.ownsMap P t anyR b g.length D ∧ (intKeys D).Perm g.keys ∧ Maps.size D = g.length := by
  obtain ⟨h1, h2, h3⟩ := hK
  rcases h with ⟨h, _⟩ | ⟨b', l, hA, rfl, es, ck, hb, hs, he⟩
  · cases h
  have hbb : b = b' := by injection hA with hA; injection hA
  subst hbb
  have hl : es.size = l.length := MapAt.len (b := b) he
  have hkeys : ∀ x ∈ es.toList, ∃ k : Int, x.key = .int .i64 k ∧ k ∈ l.map (·.1) := by
    intro x hx
    obtain ⟨j, hj⟩ := List.getElem?_of_mem hx
    obtain ⟨k, y, q1, q2, _⟩ := ents_at he (by simpa using hj)
    exact ⟨k, q2, List.mem_map.2 ⟨(k, y), List.mem_of_getElem? q1, rfl⟩⟩
  have hrd : ∀ x ∈ es.toList, ∃ k : Int, x.key = .int .i64 k ∧ WideElems.rd P t anyR x = some (.int .i64 k, .nil) := by
    intro x hx
    obtain ⟨k, q1, q2⟩ := hkeys x hx
    refine ⟨k, q1, ?_⟩
    unfold WideElems.rd
    rw [q1, keyOf64 ht (h3 k q2)]
    rfl
  have hrg : (es.toList.map (WideElems.rg P t anyR)).map (fun p => intOf p.1) = l.map (·.1) := by
    have e1 : (es.toList.map (WideElems.rg P t anyR)).map (fun p => intOf p.1) = (es.toList.map (fun e => (e.key, e.val))).map (fun p => match p.1 with | .int _ a => a | _ => 0) := by
      rw [List.map_map, List.map_map]
      refine List.map_congr_left fun x hx => ?_
      obtain ⟨k, q1, q2⟩ := hrd x hx
      simp [WideElems.rg, q2, q1, intOf]
    rw [e1, he, List.map_map]
    exact List.map_congr_left fun x _ => rfl
  refine ⟨_, ⟨es, ck, hb, ⟨by rw [hl]; simp only [maxLen]; have : (⟨some l⟩ : M β).length = l.length := rfl; omega, hs, fun x hx => ?_⟩, by rw [hl]; exact Nat.le_refl _, rfl⟩, ?_, ?_⟩
  · obtain ⟨k, _, q2⟩ := hrd x hx
    exact ⟨_, q2⟩
  · show (((es.toList.map (WideElems.rg P t anyR)).foldr DataW.insert []).map fun p => intOf p.1).Perm (l.map (·.1))
    rw [← hrg]
    exact (sorted_perm _).map _
  · show ((es.toList.map (WideElems.rg P t anyR)).foldr DataW.insert []).length = l.length
    rw [(sorted_perm _).length_eq, List.length_map, Array.length_toList, hl]
theorem keysOK_map {γ δ : Type} {f : γ → δ} {g : M γ} (h : KeysOK (g.map f)) : KeysOK g := by
  obtain ⟨h1, h2, h3⟩ := h
  rw [M.isNil_map] at h1
  rw [M.length_map] at h2
  rw [M.keys_map] at h3
  exact ⟨h1, h2, h3⟩
theorem flatZ : ∀ ss : List Int, ss.flatMap (encInt .i64).f = ss.map encZ
  | [] => rfl
  | x :: r => by rw [List.flatMap_cons, flatZ r]; rfl
theorem collect_of {ρ ρ2 : Shelf.Ren} (C : SlLaysZI.n8 P ρ) (C2 : SlLaysZI.n10 P ρ2) (eI : EntersF P (ρ2.f 10)) (ht : ρ2.t 26 = ρ.t 26)
    (bx tM : Nat) (A : Option Addr) (m : M α) (w : World) (o : Nat → Nat) {Lb Lm F : Nat} (hb : Ft (Bx bx tM [mv A]) w o Lb) (hm : MpN D ag A m w o Lm F) (hK : KeysOK m) (R0 : Nat) :
    Calls P (ρ.f 8) #[.func (.func (ρ2.f 10)) #[] #[.pointer (some ⟨bx, 0, none⟩)]] w (Ret fun v_ w' => ∃ o' : Nat → Nat, ∃ A' c, ∃ ks : List Int, v_ = .slice A' ks.length c ∧ St [] w o w' o' ∧ ks.Perm m.keys ∧ Ft (Own (encInt .i64) (ρ.t 26) (.slice A' ks.length c) ks) w' o' R0 ∧ ks.length ≤ c) := by
  obtain ⟨g, e1, e2, e3⟩ := hm
  subst e1
  have hK2 := keysOK_map hK
  have hg := e2.now
  obtain ⟨b, rfl⟩ : ∃ b, A = some ⟨b, 0, none⟩ := by
    rcases hg with ⟨_, rfl⟩ | ⟨b, l, rfl, _⟩
    · exact absurd hK2.1 (by simp [M.nil, M.isNil])
    · exact ⟨b, rfl⟩
  obtain ⟨D0, hown, hp, hsz⟩ := ownsMap_of (P := P) (t := ρ2.t 26) C2.t26 hg hK2
  have hbox : w.heap[bx]? = some (.cells #[.map (some b)] tM (0, 0)) := hb.now
  have hlt : bx < w.heap.size := (Array.getElem?_eq_some_iff.1 hbox).1
  have hcell := (cell_of_box_a hbox).1
  have hseq := AnyZI.keys_gives C2 Fence.wide 3 trivial rfl (by omega) bx b g.length D0 w hlt hcell hown
  have hcol := AnyZI.collect_in C Fence.wide 5 trivial trivial rfl (by omega) (ρ2.f 10) #[.pointer (some ⟨bx, 0, none⟩)] trivial eI (fun ss => ss.Perm (intKeys D0)) (Maps.size D0) (by rw [hsz]; simp only [maxLen]; have := hK2.2.1; omega) (by rw [hsz]; have := hK2.2.1; omega) w hseq
  refine callsIn_wide.1 (CallsIn.mono hcol fun e w' he => ?_)
  obtain ⟨v, ss, rfl, hS, hrow, hnil, hbel⟩ := he
  have hOwn : Own (encInt .i64) (ρ.t 26) v ss w' := by
    have := ownsRow_base_a hrow (Nat.zero_le w.heap.size)
    unfold Own
    rw [flatZ]
    exact this
  obtain ⟨A', c, rfl, hc, _⟩ := hOwn.shape
  refine ⟨_, rfl, fun k => if k < w.heap.size then o k else R0, A', c, ss, rfl, ⟨hbel.os, hbel.tape, hbel.output, hbel.size, fun k hk _ => by simp [hk], fun k hk _ => hbel.block k hk⟩, (hS.trans hp).trans (by rw [M.keys_map]), hOwn.ft fun k hk => ?_, hc⟩
  have hge : ¬ k < w.heap.size := by
    rcases hrow.2 with ⟨h1, _⟩ | ⟨g', cap, cur, h1, h2, _⟩
    · rw [h1] at hk; cases hk
    · rw [h1] at hk
      injection hk with hk
      simp only at hk
      omega
  simp [hge]
end
end Go.Proofs.XC

set_option linter.unusedSimpArgs false
set_option linter.unusedVariables false
namespace Go.Proofs.XC
open Go Go.MapKept Go.Maps Go.Proofs

/-! ### Ranges over maps -/
/-- The iterator at A over a map; left: the keys that are still to come. -/
def MRng (P : Program) (kt : TypeId) (A : Option Addr) (left : List Int) (w : World) (o : Nat → Nat) (Lr Lm : Nat) : Prop :=
  ∃ (r b nn : Nat) (D : DataW Unit) (lf : Lit → Bool) (cnt : Nat) (ob om : Obj), A = some ⟨r, 0, none⟩ ∧ Ft (fun W => W.heap[r]? = some ob) w o Lr ∧ Ft (fun W => W.heap[b]? = some om) w o Lm ∧ w.ranges P kt anyR b r nn D lf cnt ∧ left.Nodup ∧ ∀ x : Int, x ∈ left ↔ lf (.int .i64 x) = true
theorem ranges_congr {P : Program} {kt : TypeId} {b r nn cnt : Nat} {D : DataW Unit} {lf : Lit → Bool} {w w' : World} (h : w.ranges P kt anyR b r nn D lf cnt) (hb : w'.heap[b]? = w.heap[b]?) (hr : w'.heap[r]? = w.heap[r]?) : w'.ranges P kt anyR b r nn D lf cnt := by
  obtain ⟨es, clock, since, seen, c0, q1, q2, q3, q4, q5, q6⟩ := h
  exact ⟨es, clock, since, seen, c0, hb.trans q1, q2, q3, q4, hr.trans q5, q6⟩
theorem heap_at_lab {k L : Nat} {ob : Obj} {w : World} {o : Nat → Nat} (h : Ft (fun W => W.heap[k]? = some ob) w o L) : o k = L := by
  by_cases ho : o k = L
  · exact ho
  · have hlt := (Array.getElem?_eq_some_iff.1 h.now).1
    have h1 := h { w with heap := w.heap.set k (.map #[] 0) hlt } (fun c hc hcl => by
      have : c ≠ k := fun e => ho (e ▸ hc)
      simp [Array.getElem?_set, Ne.symm this])
    have h2 := h { w with heap := w.heap.set k (.map #[] 1) hlt } (fun c hc hcl => by
      have : c ≠ k := fun e => ho (e ▸ hc)
      simp [Array.getElem?_set, Ne.symm this])
    simp at h1 h2
    rw [← h1] at h2
    cases h2
section
variable {ρ : Option Nat} {ds : List Deferred} {P : Program} {T : Tab} {n : Nat} {a : Act} {e : Env} {w w' W : World} {o o' : Nat → Nat} {L L' F F' Lr Lm Lr' Lm' : Nat} {Mm : List Nat} {Q : Exit → Act → World → Prop} {K : Act → World → Prop}
  {d : Option Tmp} {ty : TypeId} {pos : String} {af : Array Edge} {gd : Option (Nat × Bool)} {α : Type} {D : ND α} {ag : Bool} {A : Option Addr} {m : M α} {kt : TypeId} {left : List Int}
theorem MRng.conv (h : MRng P kt A left w o Lr Lm) (h1 : ∀ P : World → Prop, Ft P w o Lr → Ft P w' o' Lr') (h2 : ∀ P : World → Prop, Ft P w o Lm → Ft P w' o' Lm') : MRng P kt A left w' o' Lr' Lm' := by
  obtain ⟨r, b, nn, D, lf, cnt, ob, om, e1, e2, e3, e4, e5, e6⟩ := h
  exact ⟨r, b, nn, D, lf, cnt, ob, om, e1, h1 _ e2, h2 _ e3, ranges_congr e4 ((h2 _ e3).now.trans e3.now.symm) ((h1 _ e2).now.trans e2.now.symm), e5, e6⟩
theorem MRng.st (h : MRng P kt A left w o Lr Lm) (s : St Mm w o w' o') (hL : Lr ∉ Mm ∧ Lm ∉ Mm) : MRng P kt A left w' o' Lr Lm := h.conv (fun _ f => f.st s hL.1) (fun _ f => f.st s hL.2)
theorem MRng.relab (h : MRng P kt A left w o Lr Lm) (q : Nat → Nat) (hr : (q Lr, q Lm) = (Lr', Lm')) : MRng P kt A left w (fun b => q (o b)) Lr' Lm' :=
  h.conv (fun _ f => f.relab q (Prod.mk.inj hr).1) (fun _ f => f.relab q (Prod.mk.inj hr).2)
theorem MRng.now (h : MRng P kt A left w o Lr Lm) : MRng P kt A left w o Lr Lm := h
theorem has_int {H : Type} {D : DataW H} {es : List (Lit × DataW H)} (hD : D = .map es) (hk : ∀ p ∈ es, ∃ x, p.1 = .int .i64 x) (x : Int) : x ∈ intKeys D ↔ Maps.has D (.int .i64 x) = true := by
  subst hD
  rw [has_eq, List.any_eq_true]
  show x ∈ es.map (fun p => intOf p.1) ↔ _
  rw [List.mem_map]
  constructor
  · rintro ⟨p, hp', rfl⟩
    obtain ⟨a, ha⟩ := hk p hp'
    exact ⟨p, hp', by rw [ha]; simp [Lit.sameKey, intOf]⟩
  · rintro ⟨p, hp', hs⟩
    obtain ⟨a, ha⟩ := hk p hp'
    rw [ha] at hs
    exact ⟨p, hp', by rw [ha]; simpa [Lit.sameKey, intOf] using hs⟩
theorem op_mrange (ht : TabOK P T) (hk : KnD n ds a e) {mt kt et : Nat} {x : Operand} (hm : find T.und mt = some (.map kt et)) (hkt : find T.und kt = some (.int .i64)) (hx : evo e x = some (mv A)) (hf : MpN D ag A m w o Lm F) (hK : KeysOK m) (Lr : Nat)
    (h : ∀ r w' o', St [] w o w' o' → MRng P kt (some ⟨r, 0, none⟩) m.keys w' o' Lr Lm → K (a.put d (.pointer (some ⟨r, 0, none⟩))) w') :
    (Oper.mk d (.range mt x) ty pos af gd).wpIn (WF ρ) 0 P a w K Q := by
  obtain ⟨g, e1, e2, e3⟩ := hf
  subst e1
  have hK2 := keysOK_map hK
  have hg := e2.now
  obtain ⟨b, rfl⟩ : ∃ b, A = some ⟨b, 0, none⟩ := by
    rcases hg with ⟨_, rfl⟩ | ⟨b, l, rfl, _⟩
    · exact absurd hK2.1 (by simp [M.nil, M.isNil])
    · exact ⟨b, rfl⟩
  have hnd : g.keys.Nodup := by
    rcases hg with ⟨h1, _⟩ | ⟨b', l, hA, rfl, es, ck, hb, hs, he⟩
    · cases h1
    · exact ents_nodup hs he
  obtain ⟨D0, hown, hp, hsz⟩ := ownsMap_of (P := P) (t := kt) (ht.u hkt) hg hK2
  have hob : ∃ om, w.heap[b]? = some om ∧ o b = Lm := by
    rcases hg with ⟨h1, _⟩ | ⟨b', l, hA, rfl, es, ck, hb, hs, he⟩
    · cases h1
    · have : b = b' := by injection hA with hA; injection hA
      subst this
      exact ⟨_, hb, MpF.lab e2⟩
  obtain ⟨om, hb, hLb⟩ := hob
  have hbl : b < w.heap.size := (Array.getElem?_eq_some_iff.1 hb).1
  obtain ⟨w', hrun, hrg, hgr, hsize⟩ := hown.range (int_keyed (ht.u hkt)) (ht.u hm)
  have hrl := hrg.lt
  obtain ⟨or_, hor⟩ : ∃ ob, w'.heap[w.heap.size]? = some ob := ⟨_, Array.getElem?_eq_getElem hrl⟩
  refine op_of_run (v := .pointer (some ⟨w.heap.size, 0, none⟩)) (w' := w') ?_ ?_
  · simp [execOp, hk.ev hx, mv, hrun]
  · refine h w.heap.size w' (fun c => if c < w.heap.size then o c else Lr) ⟨hgr.os, hgr.tape, hgr.output, hgr.size, fun c hc _ => by simp [hc], fun c hc _ => hgr.block c hc (by simp)⟩ ?_
    have hkD : ∃ es, D0 = .map es ∧ ∀ p ∈ es, ∃ x, p.1 = .int .i64 x := by
      obtain ⟨es, ck, q1, q2, q3, q4⟩ := hown
      refine ⟨_, q4, fun p hp => ?_⟩
      obtain ⟨y, hy, rfl⟩ := List.mem_map.1 ((sorted_perm _).mem_iff.1 hp)
      obtain ⟨z, hz⟩ := q2.reads y hy
      obtain ⟨k, _, hk, _⟩ := Maps.keyOf_i64 (ht.u hkt) (WideElems.rd_key hz)
      exact ⟨k, by rw [WideElems.rg_of hz, hk]⟩
    obtain ⟨es0, hes0, hes1⟩ := hkD
    refine ⟨w.heap.size, b, g.length, D0, Maps.has D0, Maps.size D0, or_, om, rfl, fun W hW => ?_, fun W hW => ?_, hrg, by rw [M.keys_map]; exact hnd, fun x => ?_⟩
    · exact (hW w.heap.size (by simp) hrl).trans hor
    · exact (hW b (by simp [hbl, hLb]) (by omega)).trans ((hgr.block b hbl (by simp)).trans hb)
    · rw [M.keys_map, ← hp.mem_iff]
      exact has_int hes0 hes1 x
theorem op_mnext (hk : KnD n ds a e) (hkt : P.underlying kt = some (.int .i64)) {x : Operand} (hx : evo e x = some (.pointer A)) (hf : MRng P kt A left w o Lr Lm) (hne : Lr ≠ Lm)
    (h0 : left = [] → K (a.put d (.tuple #[.bool false])) w)
    (h1 : ∀ (k : Int) (v : Value) (w' : World), k ∈ left → St [Lr] w o w' o → MRng P kt A (left.erase k) w' o Lr Lm → (Instr.entry (.pointer A)).run P w' = .ok (.tuple #[.int .i64 k, v]) w' → K (a.put d (.tuple #[.bool true, .int .i64 k, v])) w') :
    (Oper.mk d (.next x false) ty pos af gd).wpIn (WF ρ) 0 P a w K Q := by
  obtain ⟨r, b, nn, D0, lf, cnt, ob, om, rfl, e2, e3, e4, e5, e6⟩ := hf
  rcases e4.next (int_keyed hkt) ty with ⟨c0, hl, hrun⟩ | ⟨key, v, kl, y, w', cnt', hkey, hlk, hv, hat, hrun, hrg, hlt, hgr, hsz, hen⟩
  · refine op_of_run (v := .tuple #[.bool false]) (w' := w) ?_ (h0 ?_)
    · simp [execOp, hk.ev hx, hrun]
    · cases left with
      | nil => rfl
      | cons z l =>
        have := (e6 z).1 (by simp)
        rw [hl] at this
        cases this
  · obtain ⟨k, rfl, rfl, _⟩ := Maps.keyOf_i64 hkt hkey
    have hLr := heap_at_lab e2
    have hLm := heap_at_lab e3
    have hbl : b < w.heap.size := (Array.getElem?_eq_some_iff.1 e3.now).1
    have hbr : b ≠ r := fun hh => hne (by rw [← hLr, ← hLm, hh])
    have hrl := hrg.lt
    obtain ⟨or_, hor⟩ : ∃ ob, w'.heap[r]? = some ob := ⟨_, Array.getElem?_eq_getElem hrl⟩
    refine op_of_run (v := .tuple #[.bool true, .int .i64 k, v]) (w' := w') ?_ (h1 k v w' ((e6 k).2 hlk) ⟨hgr.os, hgr.tape, hgr.output, hgr.size, fun _ _ _ => rfl, fun c hc hn => hgr.block c hc (fun hh => hn (by injection hh with hh; rw [hh, hLr]; simp))⟩ ?_ hen)
    · simp [execOp, hk.ev hx, hrun]
    · refine ⟨r, b, nn, D0, _, cnt', or_, om, rfl, fun W hW => (hW r hLr hrl).trans hor, fun W hW => (hW b hLm (by omega)).trans ((hgr.block b hbl (fun hh => hbr (by injection hh))).trans e3.now), hrg, e5.sublist List.erase_sublist, fun z => ?_⟩
      rw [e5.mem_erase_iff, e6 z]
      constructor
      · rintro ⟨q1, q2⟩
        simp [q2, Lit.sameKey, q1]
      · intro hq
        simp only [Bool.and_eq_true, Bool.not_eq_true', Lit.sameKey] at hq
        refine ⟨fun hh => ?_, hq.1⟩
        rw [hh] at hq
        simp at hq
theorem ask_entry {k : Int} {v : Value} {x : Operand} (hx : evo e x = some (.pointer A)) (h : (Instr.entry (.pointer A)).run P w = .ok (.tuple #[.int .i64 k, v]) w) :
    AskIs P e (Oper.mk d (.entry x) ty pos af gd) (.tuple #[.int .i64 k, v]) w := by
  intro ρ hρ
  simp [execOp, hρ _ _ hx, h]
end
theorem none_left {γ : Type} {l : List Int} {x : Option γ} {y : Option γ} {r : γ} (h : (bif l.isEmpty then x else y) = some r) (hz : l = []) : x = some r := by subst hz; exact h
theorem more_left {γ : Type} {l : List Int} {x : Option γ} {f : Int → Option γ} {r : γ} (h : (bif l.isEmpty then x else anyP l f) = some r) {k : Int} (hk : k ∈ l) : f k = some r := by
  cases l with
  | nil => cases hk
  | cons z l => exact anyP_at h hk
end Go.Proofs.XC

set_option linter.unusedSimpArgs false
set_option linter.unusedVariables false
namespace Go.Proofs.XC
open Go

/-! ### Arguments' parts that are rows of rows -/
section
variable {P : Program} {T : Tab} {w : World} {H : Type} {enc : TypeId × Value → H} {spare : Nat → Bool} {held : Bool}
theorem open_rowTR (ht : TabOK P T) {α : Type} {E : Enc α} {WF : α → Prop} {d t e bb : Nat} {z : Value} {ks : List RK} {v : Value} (hu : find T.und t = some (.slice e)) (hi : find T.inf e = some (E.sz, bb, z)) (hk : rksP T d e = some ks)
    (hE : ∀ cs, AreR enc P w spare held ks cs → ∃ y, cs = E.f y ∧ WF y) (h : TrodC enc P w spare held t [v]) :
    ∃ (A : Option Addr) (c : Nat) (xs : List α), v = .slice A xs.length c ∧ RdC E A xs w ∧ xs.length ≤ c ∧ c ≤ maxLen ∧ ∀ y ∈ xs, WF y := by
  obtain ⟨fuel, x, hf⟩ := h
  obtain ⟨a, len, cap, rfl⟩ := trod_slice_shape (ht.u hu) hf
  cases fuel with
  | zero => simp [DataW.trod] at hf
  | succ fuel =>
    unfold DataW.trod at hf
    rw [ht.u hu] at hf
    simp only [Value.cells] at hf
    cases a with
    | none =>
      have : len = 0 ∧ cap = 0 := by
        cases len <;> cases cap <;> simp at hf ⊢
      obtain ⟨rfl, rfl⟩ := this
      exact ⟨none, 0, [], rfl, fun h0 => absurd h0 (by simp), by simp, by simp, by simp⟩
    | some a =>
      simp only at hf
      split at hf
      · rename_i hc
        cases hm : (List.range len).mapM fun i => (w.cells? 0 (a.add (i * P.cellsOf e)) (P.cellsOf e)).bind (DataW.trod enc P w 0 spare held fuel e) with
        | none => simp [hm] at hf
        | some ys =>
          rw [cellsOf_of ht hi] at hm
          have hyl : ys.length = len := by simpa using mapM_some_length hm
          have hget : ∀ i, i < len → ∃ y, E.f y = ((List.range E.sz).map fun j => (w.cell? ((a.add (i * E.sz)).add j)).getD undef) ∧ WF y ∧ ∀ j, j < E.sz → w.cell? ((a.add (i * E.sz)).add j) = (E.f y)[j]? := by
            intro i hi'
            have h1 := mapM_some_get hm i i (by simp [hi'])
            rw [List.getElem?_eq_getElem (by omega)] at h1
            obtain ⟨cs, hcs, htr⟩ := Option.bind_eq_some_iff.1 h1
            obtain ⟨_, hl, hcell⟩ := World.cells?_some hcs
            obtain ⟨y, hy, hw⟩ := hE cs (rksP_sound ht d e ks fuel cs _ hk htr)
            subst hy
            refine ⟨y, ?_, hw, hcell⟩
            apply List.ext_getElem?
            intro j
            by_cases hj : j < E.sz
            · rw [List.getElem?_map, List.getElem?_range hj]
              simp only [Option.map_some]
              rw [hcell j hj]
              rw [List.getElem?_eq_getElem (by rw [E.len]; exact hj)]
              rfl
            · rw [List.getElem?_eq_none (by rw [E.len]; omega), List.getElem?_eq_none (by simp; omega)]
          have hall : ∀ n, n ≤ len → ∃ xs : List α, xs.length = n ∧ (∀ y ∈ xs, WF y) ∧ ∀ (i : Nat) (y : α), xs[i]? = some y → ∀ j, j < E.sz → w.cell? ((a.add (i * E.sz)).add j) = (E.f y)[j]? := by
            intro n
            induction n with
            | zero => exact fun _ => ⟨[], rfl, by simp, by simp⟩
            | succ n ih =>
              intro hn
              obtain ⟨xs, hxl, hxw, hxc⟩ := ih (by omega)
              obtain ⟨y, _, hw, hc⟩ := hget n (by omega)
              refine ⟨xs ++ [y], by simp [hxl], fun u hu => ?_, fun i u hu => ?_⟩
              · rcases List.mem_append.1 hu with hu | hu
                · exact hxw u hu
                · simp only [List.mem_singleton] at hu; subst hu; exact hw
              · by_cases hin : i < xs.length
                · rw [List.getElem?_append_left hin] at hu; exact hxc i u hu
                · rw [List.getElem?_append_right (by omega)] at hu
                  have hin0 : i - xs.length = 0 := by
                    have := (List.getElem?_eq_some_iff.1 hu).1
                    simp at this; omega
                  rw [hin0] at hu
                  simp only [List.getElem?_cons_zero, Option.some.injEq] at hu
                  subst hu
                  have : i = n := by omega
                  subst this
                  exact hc
          obtain ⟨xs, hxl, hxw, hxc⟩ := hall len (Nat.le_refl _)
          refine ⟨some a, cap, xs, by rw [hxl], fun _ => ⟨a, rfl, fun i y hy j u hu => ?_⟩, by omega, hc.2.2, hxw⟩
          rw [hxc i y hy j (by rw [← E.len y]; exact (List.getElem?_eq_some_iff.1 hu).1), hu]
      · cases hf
theorem open_rowTN (ht : TabOK P T) {α : Type} (D : ND α) {WF : α → Prop} {d t e bb : Nat} {z : Value} {ks : List RK} {v : Value} (hu : find T.und t = some (.slice e)) (hi : find T.inf e = some (D.E.sz, bb, z)) (hk : rksP T d e = some ks)
    (hE : ∀ cs, AreR enc P w spare held ks cs → ∃ y, cs = D.E.f y ∧ (WF (D.val y) ∧ D.inn y w)) (hm : ∀ y, D.inn y w → Ft (D.inn y) w (fun _ => 0) 0) (h : TrodC enc P w spare held t [v]) :
    ∃ (A : Option Addr) (c : Nat) (xs : List α), v = .slice A xs.length c ∧ NRd D A xs w (fun _ => 0) 0 0 ∧ xs.length ≤ c ∧ c ≤ maxLen ∧ ∀ y ∈ xs, WF y := by
  obtain ⟨A, c, g, rfl, hr, h1, h2, h3⟩ := open_rowTR (E := D.E) (WF := fun y => WF (D.val y) ∧ D.inn y w) ht hu hi hk hE h
  refine ⟨A, c, g.map D.val, by rw [List.length_map], ⟨g, rfl, hr.ft, fun w' hw y hy => (hm y (h3 y hy).2) w' hw⟩, by rw [List.length_map]; exact h1, h2, fun y hy => ?_⟩
  obtain ⟨r, hr, rfl⟩ := List.mem_map.1 hy
  exact (h3 r hr).1
end
end Go.Proofs.XC
