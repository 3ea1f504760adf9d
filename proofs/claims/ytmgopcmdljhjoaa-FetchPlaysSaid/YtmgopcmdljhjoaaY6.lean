/- Words of an own calculus over the model: how a call's frame, rows and boxes go through its operations. -/
import Derived.Test.YtmgopcmdljhjoaaY5
import Derived.Maps.AppendAt
import Derived.Below
set_option linter.unusedSimpArgs false
set_option linter.unusedVariables false
namespace Go.Proofs.XC
open Go

section
variable {ρ : Option Nat} {ds : List Deferred} {P : Program} {T : Tab} {n : Nat} {a : Act} {e : Env} {w w' : World} {o o' : Nat → Nat} {L : Nat} {ops : List Oper} {Q : Exit → Act → World → Prop} {K : Act → World → Prop}
  {d : Option Tmp} {ty : TypeId} {pos : String} {af : Array Edge} {g : Option (Nat × Bool)}

theorem op_of_run {x : Oper} {v : Value} (hr : (execOp a.eval x).run P w = .ok (.value v) w') (h : K (a.put x.dst v) w') : x.wpIn (WF ρ) 0 P a w K Q := by
  exact wf_value hr h
theorem op_of_skip {x : Oper} (hr : (execOp a.eval x).run P w = .ok .skip w') (h : K (a.put x.dst undef) w') : x.wpIn (WF ρ) 0 P a w K Q := by
  exact wf_skip hr h

/-! ### New blocks -/
def newLab (o : Nat → Nat) (b L : Nat) : Nat → Nat := fun x => if x = b then L else o x
theorem St.alloc (M : List Nat) (w : World) (o : Nat → Nat) (ob : Obj) (L : Nat) : St M w o (w.alloc ob) (newLab o w.heap.size L) :=
  ⟨rfl, rfl, rfl, by simp, fun b hb _ => by simp [newLab, Nat.ne_of_lt hb], fun b hb _ => heap_alloc_old w ob hb⟩
theorem Ft.alloc (w : World) (o : Nat → Nat) (t : TypeId) (cs : List Value) (L : Nat) : Ft (Bx w.heap.size t cs) (w.alloc (.cells cs.toArray t)) (newLab o w.heap.size L) L :=
  Ft.box (heap_alloc_new w _) (by simp [newLab])
theorem op_alloc (ht : TabOK P T) {t s b : Nat} {z : Value} {cs : List Value} (hz : find T.inf t = some (s, b, z)) (hc : z.cells.toList = cs) (L : Nat)
    (h : ∀ (b : Nat) w' o', St [] w o w' o' → Ft (Bx b t cs) w' o' L → K (a.put d (.pointer (some ⟨b, 0, none⟩))) w') :
    (Oper.mk d (.alloc t) ty pos af g).wpIn (WF ρ) 0 P a w K Q := by
  have hc' : z.cells = cs.toArray := by rw [← hc]
  refine op_of_run (v := .pointer (some ⟨w.heap.size, 0, none⟩)) (w' := w.alloc (.cells cs.toArray t)) ?_ (h _ _ _ (St.alloc [] w o _ L) (Ft.alloc w o t cs L))
  simp [execOp, Instr.alloc, run_zeroValue' ht hz, newVar, newRow, hc']
theorem op_box {t : Nat} {x : Operand} {v : Value} {cs : List Value} (hk : KnD n ds a e) (hx : evo e x = some v) (hc : v.cells.toList = cs) (L : Nat)
    (h : ∀ (b : Nat) w' o', St [] w o w' o' → Ft (Bx b t cs) w' o' L → K (a.put d (.pointer (some ⟨b, 0, none⟩))) w') :
    (Oper.mk d (.box t x) ty pos af g).wpIn (WF ρ) 0 P a w K Q := by
  have hc' : v.cells = cs.toArray := by rw [← hc]
  refine op_of_run (v := .pointer (some ⟨w.heap.size, 0, none⟩)) (w' := w.alloc (.cells cs.toArray t)) ?_ (h _ _ _ (St.alloc [] w o _ L) (Ft.alloc w o t cs L))
  simp [execOp, Instr.box, newVar, newRow, hk.ev hx, hc']

/-! ### A store into a box -/
theorem setCell_far (w : World) (p : Addr) (v : Value) (c : Nat) (h : c ≠ p.block) : (w.setCell p v).heap[c]? = w.heap[c]? := by
  simp only [World.setCell]
  rw [Array.getElem?_modify, if_neg (Ne.symm h)]
theorem run_storeCells {b : Nat} {t : TypeId} : ∀ (vs : List Value) (i k : Nat) (cs : List Value) (w : World), Bx b t cs w → (∀ v ∈ vs, v.oneCell' = true) → k + i + vs.length ≤ cs.length →
    ∃ w', (storeCells ((⟨b, 0, none⟩ : Addr).add k) vs i).run P w = .ok () w' ∧ Bx b t (cs.take (k + i) ++ vs ++ cs.drop (k + i + vs.length)) w' ∧ w'.os = w.os ∧ w'.tape = w.tape ∧ w'.output = w.output ∧ w'.heap.size = w.heap.size ∧ ∀ c, c ≠ b → w'.heap[c]? = w.heap[c]?
  | [], i, k, cs, w, hb, _, _ => ⟨w, by simp [storeCells], by simpa using hb, rfl, rfl, rfl, rfl, fun _ _ => rfl⟩
  | v :: vs, i, k, cs, w, hb, h1, hl => by
    simp only [List.length_cons] at hl
    have had : ((⟨b, 0, none⟩ : Addr).add k).add i = ⟨b, k + i, none⟩ := by
      unfold Addr.add
      by_cases hk : k = 0 <;> by_cases hi : i = 0 <;> simp [hk, hi]
    have hc : w.cell? ⟨b, k + i, none⟩ = cs[k + i]? := by
      have := Bx.cell hb (k + i)
      rwa [show (⟨b, 0, none⟩ : Addr).add (k + i) = ⟨b, k + i, none⟩ by unfold Addr.add; split <;> simp_all] at this
    have hsome : cs[k + i]? = some cs[k + i] := List.getElem?_eq_getElem (by omega)
    have hfr := Bx.free hb ⟨b, k + i, none⟩ rfl
    have hb2 : Bx b t (cs.set (k + i) v) (w.setCell ⟨b, k + i, none⟩ v) := by
      unfold Bx at hb ⊢
      have hlt : b < w.heap.size := (Array.getElem?_eq_some_iff.1 hb).1
      simp only [World.setCell]
      rw [Array.getElem?_modify]
      simp [hb]
    obtain ⟨w', hr, hb', ho, htp, hout, hsz, hk'⟩ := run_storeCells vs (i + 1) k (cs.set (k + i) v) _ hb2 (fun u hu => h1 u (List.mem_cons_of_mem _ hu)) (by simp only [List.length_set]; omega)
    refine ⟨w', ?_, ?_, ho.trans rfl, htp.trans rfl, hout.trans rfl, hsz.trans (by simp), fun c hc' => (hk' c hc').trans ?_⟩
    · simp only [storeCells, Sem.run_bind, had, run_store P w _ v .plain (h1 v List.mem_cons_self), hc, hsome, hfr]
      simpa using hr
    · have e1 : (cs.set (k + i) v).take (k + (i + 1)) = cs.take (k + i) ++ [v] := by
        rw [List.take_set, ← Nat.add_assoc, List.take_succ_eq_append_getElem (by omega : k + i < cs.length)]
        rw [List.set_append_right _ _ (by simp; omega)]
        simp [Nat.min_eq_left (by omega : k + i ≤ cs.length)]
      have e2 : (cs.set (k + i) v).drop (k + (i + 1) + vs.length) = cs.drop (k + i + (vs.length + 1)) := by
        rw [List.drop_set_of_lt (by omega)]
        congr 1
        omega
      rw [e1, e2] at hb'
      simpa using hb'
    · exact setCell_far w ⟨b, k + i, none⟩ v c hc'
/-- A store at an offset k of a box. -/
theorem op_store (ht : TabOK P T) (hk : KnD n ds a e) {t s bb : Nat} {z : Value} {x y : Operand} {ad : Addr} {v : Value} {b k t' : Nat} {cs cs' : List Value}
    (hi : find T.inf t = some (s, bb, z)) (hx : evo e x = some (.pointer (some ad))) (hy : evo e y = some v) (had : ad = (⟨b, 0, none⟩ : Addr).add k)
    (hs : v.cells.size = s) (h1 : (v.cells.toList.all Value.oneCell') = true) (hb : Ft (Bx b t' cs) w o L) (hl : Nat.ble (k + s) cs.length = true) (hc : cs.take k ++ v.cells.toList ++ cs.drop (k + s) = cs')
    (h : ∀ w' o', St [L] w o w' o' → Ft (Bx b t' cs') w' o' L → K (a.put d undef) w') :
    (Oper.mk d (.store t x y) ty pos af g).wpIn (WF ρ) 0 P a w K Q := by
  have hl' : k + s ≤ cs.length := by simpa using hl
  obtain ⟨w', hr, hb', ho, htp, hout, hsz, hk'⟩ := run_storeCells (P := P) v.cells.toList 0 k cs w hb.now (fun u hu => List.all_eq_true.1 h1 u hu) (by simp [hs]; omega)
  have hL := hb.box_lab
  refine op_of_skip (w' := w') ?_ (h w' o ⟨ho, htp, hout, by omega, fun _ _ _ => rfl, fun c _ hcm => hk' c (fun e => hcm (by rw [e, hL]; simp))⟩ (Ft.box (by rw [← hc]; simpa [hs] using hb') hL))
  simp [execOp, Instr.storeAt, hk.ev hx, hk.ev hy, Instr.sureAddr, storeVar, hs, run_sizeOf' ht hi, had, hr]

/-! ### Rows of one's own -/
/-- A row that may be appended to: nil, or from the head of a block on. -/
def Own {α : Type} (E : Enc α) (t : TypeId) (v : Value) (xs : List α) (w : World) : Prop := w.ownsRow 0 t E.sz v xs.length (xs.flatMap E.f)
theorem flat_at {α : Type} (E : Enc α) : ∀ (xs : List α) (i : Nat) (x : α), xs[i]? = some x → ∀ (j : Nat) (v : Value), (E.f x)[j]? = some v → (xs.flatMap E.f)[i * E.sz + j]? = some v
  | [], i, x, h, _, _, _ => by simp at h
  | y :: ys, 0, x, h, j, v, hv => by
    simp only [List.getElem?_cons_zero, Option.some.injEq] at h
    subst h
    simp only [List.flatMap_cons, Nat.zero_mul, Nat.zero_add]
    rw [List.getElem?_append_left (List.getElem?_eq_some_iff.1 hv).1]
    exact hv
  | y :: ys, i + 1, x, h, j, v, hv => by
    simp only [List.getElem?_cons_succ] at h
    have := flat_at E ys i x h j v hv
    simp only [List.flatMap_cons]
    rw [List.getElem?_append_right (by rw [E.len]; rw [Nat.add_mul]; omega), E.len]
    rw [← this]
    congr 1
    rw [Nat.add_mul]; omega
theorem flat_len {α : Type} (E : Enc α) : ∀ xs : List α, (xs.flatMap E.f).length = xs.length * E.sz
  | [] => by simp
  | x :: xs => by simp [flat_len E xs, E.len, Nat.add_mul, Nat.add_comm]
theorem Own.shape {α : Type} {E : Enc α} {t : TypeId} {v : Value} {xs : List α} (h : Own E t v xs w) : ∃ A c, v = .slice A xs.length c ∧ xs.length ≤ c ∧ c ≤ 9223372036854775807 := by
  rcases h.2 with ⟨rfl, h0⟩ | ⟨g, cap, cur, rfl, _, _, h1, h2, _⟩
  · exact ⟨none, 0, by rw [h0], by omega, by omega⟩
  · exact ⟨_, cap, rfl, h1, by simp only [maxLen] at h2; omega⟩
theorem add_flat (g : Nat) (i j : Nat) : ((⟨g, 0, none⟩ : Addr).add i).add j = (⟨g, 0, none⟩ : Addr).add (i + j) := by
  unfold Addr.add
  by_cases hi : i = 0 <;> by_cases hj : j = 0 <;> simp [hi, hj]
theorem Own.rd {α : Type} {E : Enc α} {t : TypeId} {A : Option Addr} {k c : Nat} {xs : List α} (h : Own E t (.slice A k c) xs w) : RdC E A xs w := by
  intro h0
  rcases h.2 with ⟨_, hn⟩ | ⟨g, cap, cur, hv, hb, hg, h1, h2, h3, h4⟩
  · omega
  · injection hv with hA hk hc
    refine ⟨⟨g, 0, none⟩, hA, fun i x hx j v hv => ?_⟩
    have hf := flat_at E xs i x hx j v hv
    rw [← h4, List.getElem?_take] at hf
    split at hf
    · rw [add_flat]
      have e1 : (⟨g, 0, none⟩ : Addr).add (i * E.sz + j) = ⟨g, i * E.sz + j, none⟩ := by unfold Addr.add; split <;> simp_all
      rw [e1]
      simp [World.cell?, hg]
      simpa using hf
    · simp at hf
theorem Own.nil {α : Type} (E : Enc α) (t : TypeId) (w : World) : Own E t (.slice none 0 0) ([] : List α) w := ⟨by simp, .inl ⟨rfl, rfl⟩⟩
theorem Ft.of_all {P : World → Prop} (h : ∀ w, P w) (w : World) (o : Nat → Nat) (L : Nat) : Ft P w o L := fun w' _ => h w'
theorem Own.lab {α : Type} {E : Enc α} {t : TypeId} {v : Value} {xs : List α} (h : Ft (Own E t v xs) w o L) : ∀ g, v.ownBlock = some g → o g = L := by
  intro g hg
  by_cases ho : o g = L
  · exact ho
  · have h1 := h.now
    rcases h1.2 with ⟨rfl, _⟩ | ⟨g', cap, cur, rfl, _, hh, _⟩
    · simp [Value.ownBlock] at hg
    · have hgg : g' = g := by simpa [Value.ownBlock] using hg
      subst hgg
      have hlt : g' < w.heap.size := (Array.getElem?_eq_some_iff.1 hh).1
      have h2 := h { w with heap := w.heap.set g' (.map #[] 0) hlt } (fun c hc hcl => by
        have : c ≠ g' := fun e => ho (e ▸ hc)
        simp [Array.getElem?_set, Ne.symm this])
      rcases h2.2 with ⟨hx, _⟩ | ⟨g2, cap2, cur2, hv, _, hh2, _⟩
      · cases hx
      · injection hv with hv _ _
        injection hv with hv
        injection hv with hv _ _
        subst hv
        simp at hh2
/-- A literal: a new block, an own row. -/
theorem Own.of_box {α : Type} {E : Enc α} {t b : Nat} {cs : List Value} {xs : List α} (h : Bx b t cs w) (hx : xs.flatMap E.f = cs) (hm : xs.length ≤ 9223372036854775807) : Own E t (.slice (some ⟨b, 0, none⟩) xs.length xs.length) xs w := by
  refine ⟨flat_len E xs, .inr ⟨b, xs.length, cs.toArray, rfl, Nat.zero_le _, h, Nat.le_refl _, by simp only [maxLen]; omega, ?_, ?_⟩⟩
  · rw [← hx, List.size_toArray, flat_len]
  · rw [← hx, ← flat_len E xs, List.toList_toArray, List.take_length]
theorem RdC.of_box {α : Type} {E : Enc α} {t b : Nat} {cs : List Value} {xs : List α} (h : Bx b t cs w) (hx : xs.flatMap E.f = cs) : RdC E (some ⟨b, 0, none⟩) xs w := by
  intro _
  refine ⟨_, rfl, fun i x hi j v hv => ?_⟩
  rw [add_flat, Bx.cell h, ← hx]
  exact flat_at E xs i x hi j v hv
theorem RdC.news {α : Type} {E : Enc α} {ad : Addr} {ys : List α} (h : RdC E (some ad) ys w) : ∀ (j : Nat) (u : Value), (ys.flatMap E.f)[j]? = some u → w.cell? (ad.add j) = some u := by
  intro j u hu
  have hj : j < (ys.flatMap E.f).length := (List.getElem?_eq_some_iff.1 hu).1
  rw [flat_len] at hj
  have hpos : 0 < E.sz := by
    rcases Nat.eq_zero_or_pos E.sz with h0 | h0
    · rw [h0] at hj; omega
    · exact h0
  have hq : j / E.sz < ys.length := (Nat.div_lt_iff_lt_mul hpos).2 hj
  have h0 : 0 < ys.length := Nat.lt_of_le_of_lt (Nat.zero_le _) hq
  obtain ⟨ad', ha, hc⟩ := h h0
  cases ha
  obtain ⟨x, hx⟩ : ∃ x, ys[j / E.sz]? = some x := ⟨_, List.getElem?_eq_getElem hq⟩
  have hr : j % E.sz < E.sz := Nat.mod_lt _ hpos
  obtain ⟨v, hv⟩ : ∃ v, (E.f x)[j % E.sz]? = some v := ⟨_, List.getElem?_eq_getElem (by rw [E.len]; exact hr)⟩
  have h1 := flat_at E ys _ _ hx _ v hv
  have e : j / E.sz * E.sz + j % E.sz = j := by rw [Nat.mul_comm]; exact Nat.div_add_mod j E.sz
  rw [e, hu] at h1
  cases h1
  have h2 := hc _ _ hx _ u hv
  have e2 : (ad.add (j / E.sz * E.sz)).add (j % E.sz) = ad.add j := by
    unfold Addr.add
    by_cases ha : j / E.sz * E.sz = 0
    · rw [ha] at e; simp only [Nat.zero_add] at e
      simp [ha, e]
    · by_cases hb : j % E.sz = 0
      · rw [hb] at e; simp only [Nat.add_zero] at e
        have : j ≠ 0 := by omega
        simp [ha, hb, e, this]
      · have : j ≠ 0 := by omega
        simp [ha, hb, this]; omega
  rwa [e2] at h2
end
end Go.Proofs.XC
