/- Words of an own calculus over the model: how a call's frame, rows and boxes go through its operations. -/
import Derived.Test.YtmgopcmdljhjoaaY6
import Derived.Laws.BytesArg
import Derived.Laws.MakeOwn
set_option linter.unusedSimpArgs false
set_option linter.unusedVariables false
namespace Go.Proofs.XC
open Go

section
variable {ρ : Option Nat} {ds : List Deferred} {P : Program} {T : Tab} {n : Nat} {a : Act} {e : Env} {w w' : World} {o o' : Nat → Nat} {L : Nat} {Q : Exit → Act → World → Prop} {K : Act → World → Prop}
  {d : Option Tmp} {ty : TypeId} {pos : String} {af : Array Edge} {g : Option (Nat × Bool)} {α : Type} {E : Enc α}

theorem op_buildSlice (ht : TabOK P T) (hk : KnD n ds a e) {t el len s b : Nat} {z : Value} {parts : Array (Nat × Operand)} {vs : List Value} {cs : List Value}
    (hu : find T.und t = some (.slice el)) (hi : find T.inf el = some (s, b, z)) (hv : allSome (parts.toList.map fun p => evo e p.2) = some vs) (hsz : Nat.ble (len * s) 16777216 = true)
    (hf : Instr.fill (fun i => some (i * s, s)) ((Array.range (len * s)).map (fun i => (if len * s = 0 then #[] else z.cells)[i % (if len * s = 0 then #[] else z.cells).size]!)) ((parts.toList.map (·.1)).zip vs) = some cs.toArray) (L : Nat)
    (h : ∀ (b : Nat) w' o', St [] w o w' o' → Ft (Bx b el cs) w' o' L → K (a.put d (.slice (some ⟨b, 0, none⟩) len len)) w') :
    (Oper.mk d (.buildSlice t len parts) ty pos af g).wpIn (WF ρ) 0 P a w K Q := by
  refine op_of_run (v := .slice (some ⟨w.heap.size, 0, none⟩) len len) (w' := w.alloc (.cells cs.toArray el)) ?_ (h _ _ _ (St.alloc [] w o _ L) (Ft.alloc w o el cs L))
  have hsz' : ¬ 16777216 < len * s := by have : len * s ≤ 16777216 := by simpa using hsz
                                         omega
  have hvs : ∀ (l : List (Nat × Operand)) (r : List Value), allSome (l.map fun p => evo e p.2) = some r → l.map (fun x => (x.1, a.eval x.2)) = (l.map (·.1)).zip r := by
    intro l
    induction l with
    | nil => intro r hr; simp
    | cons p l ih =>
      intro r hr
      simp only [List.map_cons] at hr
      cases hp2 : evo e p.2 with
      | none => simp [hp2, allSome] at hr
      | some u =>
        simp only [hp2, allSome] at hr
        cases hl : allSome (l.map fun p => evo e p.2) with
        | none => simp [hl] at hr
        | some q =>
          simp only [hl, Option.some.injEq] at hr
          subst hr
          simp [hk.ev hp2, ih q hl]
  have h1 := run_underlying' (w := w) (ht.u hu)
  have h2 := run_sizeOf' (w := w) ht hi
  have h3 := run_zeroValue' (w := w) ht hi
  have h4 : (parts.map fun x => (x.1, a.eval x.2)).toList = (parts.toList.map (·.1)).zip vs := by rw [Array.toList_map]; exact hvs _ _ hv
  simp only [execOp, Instr.buildSlice, Sem.run_bind, h1, Result.andThen_ok, h2, Sem.run_ite, Nat.reducePow, gt_iff_lt]
  rw [if_neg hsz']
  by_cases h0 : len * s = 0
  · have e0 : Array.range 0 = #[] := rfl
    simp only [h0, if_true, e0, List.map_toArray, List.map_nil] at hf ⊢
    simp only [h4]
    simp [hf, newRow]
  · simp only [h0, if_false] at hf ⊢
    simp only [h4, h3, Sem.run_bind, Result.andThen_ok, Sem.run_pure]
    simp [hf, newRow]

theorem Own.move {v : Value} {xs : List α} {t : TypeId} (h : Own E t v xs w) (hm : ∀ k, v.ownBlock = some k → w'.heap[k]? = w.heap[k]?) : Own E t v xs w' := by
  obtain ⟨h1, h2⟩ := h
  refine ⟨h1, ?_⟩
  rcases h2 with h2 | ⟨g, cap, cur, rfl, hg, hh, r⟩
  · exact .inl h2
  · exact .inr ⟨g, cap, cur, rfl, hg, (hm g (by simp [Value.ownBlock])).trans hh, r⟩
theorem Own.ft {v : Value} {xs : List α} {t : TypeId} (h : Own E t v xs w) (ho : ∀ k, v.ownBlock = some k → o k = L) : Ft (Own E t v xs) w o L := fun w' hw =>
  h.move fun k hk => hw k (ho k hk) (by
    rcases h.2 with ⟨rfl, _⟩ | ⟨g, cap, cur, rfl, _, hh, _⟩
    · simp [Value.ownBlock] at hk
    · have : g = k := by simpa [Value.ownBlock] using hk
      subst this
      exact (Array.getElem?_eq_some_iff.1 hh).1)
theorem flat_one (xs : List α) : ∀ u ∈ xs.flatMap E.f, u.oneCell' = true := by
  intro u hu
  obtain ⟨x, _, hx⟩ := List.mem_flatMap.1 hu
  exact List.all_eq_true.1 (E.one x) u hx

/-- append(s, x...): s a row of one's own, x any row that is read. -/
theorem op_append (ht : TabOK P T) (hk : KnD n ds a e) {t el bytes : Nat} {z : Value} {s x : Operand} {v : Value} {xs ys : List α} {A2 : Option Addr} {c2 : Nat}
    (hu : find T.und t = some (.slice el)) (hi : find T.inf el = some (E.sz, bytes, z)) (hzs : z.cells.size = E.sz) (hsz : Nat.blt 0 E.sz = true) (hby : Nat.ble bytes 100000 = true)
    (hs : evo e s = some v) (hx : evo e x = some (.slice A2 ys.length c2)) (hown : Ft (Own E el v xs) w o L) (hrd : RdC E A2 ys w) (hlim : xs.length + ys.length ≤ 1000000000)
    (h : ∀ A c w' o', St [L] w o w' o' → Ft (Own E el (.slice A (xs ++ ys).length c) (xs ++ ys)) w' o' L → (xs ++ ys).length ≤ c → K (a.put d (.slice A (xs ++ ys).length c)) w') :
    (Oper.mk d (.call { callee := .builtin .append, args := #[s, x], argTypes := #[t, t] }) ty pos af g).wpIn (WF ρ) 0 P a w K Q := by
  obtain ⟨i, hinf, his, hib, hiz⟩ := ht.i hi
  have hsz' : 0 < E.sz := by simpa [Nat.blt_eq] using hsz
  have hby' : bytes ≤ 100000 := by simpa using hby
  have hund := ht.u hu
  have hev1 : a.eval s = v := hk.ev hs
  have hev2 : a.eval x = .slice A2 ys.length c2 := hk.ev hx
  have hexec : ∀ (v' : Value) (w' : World), (Builtin.append_ #[t, t] ty #[v, .slice A2 ys.length c2]).run P w = .ok v' w' →
      (execOp a.eval (Oper.mk d (.call { callee := .builtin .append, args := #[s, x], argTypes := #[t, t] }) ty pos af g)).run P w = .ok (.value v') w' := by
    intro v' w' hr
    simp [execOp, resolve, invoke, builtin, hev1, hev2, hr]
  have hbytes : ∀ k, k ≤ 1000000000 → k * bytes ≤ 140737488355328 := fun k hk => by
    have : k * bytes ≤ 1000000000 * 100000 := Nat.mul_le_mul hk hby'
    omega
  rcases Nat.eq_zero_or_pos ys.length with h0 | h0
  · obtain rfl : ys = [] := List.eq_nil_of_length_eq_zero h0
    obtain ⟨A, c, rfl, hc, hcm⟩ := hown.now.shape
    have hr : (Builtin.append_ #[t, t] ty #[.slice A xs.length c, .slice A2 0 c2]).run P w = .ok (.slice A xs.length c) w := by
      have e1 : (Builtin.firstCells E.sz 0 (.slice A2 0 c2)).run P w = .ok #[] w := by
        cases A2 <;> simp [Builtin.firstCells, loadCells, loadCellsFrom]
      have hsl := run_underlying' (w := w) hund
      simp [Builtin.append_, hsl, run_sizeOf' ht hi, Builtin.lenOf, hc, e1]
      cases A <;> simp [storeCells]
    refine op_of_run (hexec _ _ hr) ?_
    have := h A c w o (St.refl _ w o) (by simpa using hown) (by simpa using hc)
    simpa using this
  · obtain ⟨ad, rfl, hcc⟩ := hrd h0
    obtain ⟨v', w1, hr, hown', hg, _, hat⟩ := run_append_own_at (P := P) w 0 t ty el i z E.sz bytes hund hinf hiz his hib hzs hsz' v xs.length (xs.flatMap E.f) hown.now ad ys.length c2 (ys.flatMap E.f)
      (flat_len E ys) (RdC.news hrd) (flat_one ys) (by simp only [maxLen]; omega) (hbytes _ hlim) (Nat.zero_le _)
    refine op_of_run (hexec _ _ hr) ?_
    have hOwn : Own E el v' (xs ++ ys) w1 := by
      unfold Own
      rw [List.length_append, List.flatMap_append]
      exact hown'
    obtain ⟨A, c, rfl, hc, _⟩ := hOwn.shape
    have hL := Own.lab hown
    refine h A c w1 (fun b => if b < w.heap.size then o b else L) ⟨hg.os, hg.tape, hg.output, hg.size, fun b hb => by simp [hb], fun b hb hm => hg.block b hb (fun e => hm (by rw [hL b e.symm]; simp))⟩
      (hOwn.ft fun k hk => ?_) hc
    rcases hat with hat | hat
    · rw [hat] at hk
      by_cases hlt : k < w.heap.size
      · simp [hlt, hL k hk]
      · simp [hlt]
    · rw [hat] at hk
      cases hk
      simp

/-- string(b) -/
theorem ask_str (ht : TabOK P T) {sT dT el : Nat} {x : Operand} {A : Option Addr} {c : Nat} {xs : List Int} (hu : find T.und sT = some (.slice el)) (hel : find T.und el = some (.int .u8)) (hd : find T.und dT = some .string)
    (hx : evo e x = some (.slice A xs.length c)) (hr : RdC (encInt .u8) A xs w) (hplain : ∀ ad, A = some ad → ad.spot = none) : AskIs P e (Oper.mk d (.convert sT dT x) ty pos af g) (.string (strOfNums xs)) w := by
  intro ρ hρ
  have hev := hρ _ _ hx
  have : (convert sT dT (.slice A xs.length c)).run P w = .ok (.string (strOfNums xs)) w := by
    cases A with
    | none =>
      have h0 : xs = [] := by
        cases xs with
        | nil => rfl
        | cons y ys => obtain ⟨ad, h, _⟩ := hr (by simp); cases h
      subst h0
      exact run_convert_bytes_nil w sT el (ht.u hu) (ht.u hel) 0 c dT (ht.u hd)
    | some ad =>
      obtain ⟨b, off, sp⟩ := ad
      obtain rfl : sp = none := hplain _ rfl
      refine run_convert_bytes_arg w sT el (ht.u hu) (ht.u hel) b off xs.length c xs rfl (fun i hi => ?_) dT (ht.u hd)
      obtain ⟨ad', ha, hc⟩ := hr (by omega)
      cases ha
      have hcell := hc i xs[i] (List.getElem?_eq_getElem hi) 0 (.int .u8 xs[i]) rfl
      have e1 : (((⟨b, off, none⟩ : Addr).add (i * (encInt .u8).sz)).add 0) = ⟨b, off + i, none⟩ := by
        unfold Addr.add
        by_cases hi0 : i = 0 <;> simp [hi0, encInt]
      rw [e1] at hcell
      rw [hcell, List.getD_eq_getElem?_getD, List.getElem?_eq_getElem hi]
      rfl
  simp [execOp, hev, this]
theorem Own.plain {v : Value} {xs : List α} {t : TypeId} (h : Own E t v xs w) : ∀ A n c, v = .slice A n c → ∀ ad, A = some ad → ad.spot = none := by
  rintro A n c rfl ad rfl
  rcases h.2 with ⟨hv, _⟩ | ⟨g, cap, cur, hv, _⟩
  · cases hv
  · injection hv with hv _ _
    injection hv with hv
    rw [hv]
/-- make([]T, n) -/
theorem op_make (ht : TabOK P T) (hk : KnD n ds a e) {t el bytes : Nat} {z : Value} {x : Operand} {k1 : IntKind} {m : Int} {zx : α} (hu : find T.und t = some (.slice el)) (hi : find T.inf el = some (E.sz, bytes, z)) (hz : z.cells.toList = E.f zx)
    (hby : Nat.ble bytes 100000 = true) (hx : evo e x = some (.int k1 m)) (h0 : 0 ≤ m) (hm : m ≤ 1000000000) (L : Nat)
    (h : ∀ A c w' o', St [] w o w' o' → Ft (Own E el (.slice A (List.replicate m.toNat zx).length c) (List.replicate m.toNat zx)) w' o' L → (List.replicate m.toNat zx).length ≤ c → K (a.put d (.slice A (List.replicate m.toNat zx).length c)) w') :
    (Oper.mk d (.makeSlice t x x) ty pos af g).wpIn (WF ρ) 0 P a w K Q := by
  obtain ⟨i, hinf, his, hib, hiz⟩ := ht.i hi
  have hby' : bytes ≤ 100000 := by simpa using hby
  have hb2 : (i.bytes : Int) * m ≤ 281474976710656 := by
    rw [hib]
    have h1 : (bytes : Int) * m ≤ 100000 * 1000000000 := Int.mul_le_mul (by omega) hm h0 (by omega)
    omega
  have hr := run_make (P := P) (w := w) t el i z (ht.u hu) hinf hiz k1 k1 m m h0 (Int.le_refl _) hb2 (by omega)
  have hcells : (madeCells z.cells (m.toNat * i.size)).toList = (List.replicate m.toNat zx).flatMap E.f := by
    have hzs : z.cells.size = E.sz := by rw [← Array.length_toList, hz, E.len]
    apply List.ext_getElem?
    intro j
    rw [his]
    by_cases hj : j < m.toNat * E.sz
    · have hpos : 0 < E.sz := by
        rcases Nat.eq_zero_or_pos E.sz with q | q
        · rw [q] at hj; omega
        · exact q
      have hq : j / E.sz < m.toNat := (Nat.div_lt_iff_lt_mul hpos).2 hj
      have hmod : j % E.sz < E.sz := Nat.mod_lt _ hpos
      have hx2 : (List.replicate m.toNat zx)[j / E.sz]? = some zx := by simp [hq]
      have hv2 : (E.f zx)[j % E.sz]? = some ((E.f zx)[j % E.sz]'(by rw [E.len]; exact hmod)) := List.getElem?_eq_getElem _
      have := flat_at E _ _ _ hx2 _ _ hv2
      rw [show j / E.sz * E.sz + j % E.sz = j by rw [Nat.mul_comm]; exact Nat.div_add_mod j E.sz] at this
      rw [this]
      have hz2 : z.cells[j % E.sz]? = (E.f zx)[j % E.sz]? := by rw [← hz]; simp
      simp [madeCells, hj, hzs]
      rw [getElem!_pos z.cells (j % E.sz) (by omega)]
      exact Option.some.inj ((Array.getElem?_eq_getElem (by omega)).symm.trans (hz2.trans hv2))
    · rw [List.getElem?_eq_none (by simp [madeCells]; omega), List.getElem?_eq_none (by rw [flat_len]; simp; omega)]
  have hcells' : madeCells z.cells (m.toNat * i.size) = ((List.replicate m.toNat zx).flatMap E.f).toArray := by rw [← hcells]
  have hOwn : Own E el (.slice (some ⟨w.heap.size, 0, none⟩) (List.replicate m.toNat zx).length (List.replicate m.toNat zx).length) (List.replicate m.toNat zx) (w.alloc (.cells ((List.replicate m.toNat zx).flatMap E.f).toArray el)) :=
    Own.of_box (heap_alloc_new w _) rfl (by simp; omega)
  refine op_of_run (v := .slice (some ⟨w.heap.size, 0, none⟩) m.toNat m.toNat) (w' := w.alloc (.cells ((List.replicate m.toNat zx).flatMap E.f).toArray el)) ?_ ?_
  · rw [hcells'] at hr
    simp [execOp, hk.ev hx, hr]
  · have := h (some ⟨w.heap.size, 0, none⟩) (List.replicate m.toNat zx).length _ _ (St.alloc [] w o _ L) (hOwn.ft fun k hk => by simp [Value.ownBlock] at hk; subst hk; simp [newLab]) (Nat.le_refl _)
    simpa using this
end
end Go.Proofs.XC
