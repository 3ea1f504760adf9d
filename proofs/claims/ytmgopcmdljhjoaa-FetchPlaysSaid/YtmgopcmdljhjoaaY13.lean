/- Words of an own calculus over the model: how a call's frame, rows and boxes go through its operations. -/
import Derived.Test.YtmgopcmdljhjoaaY11
import Derived.Lib.ConvBytes
import Derived.LaidLaws
import Derived.MakeChecks
set_option linter.unusedSimpArgs false
set_option linter.unusedVariables false
namespace Go.Proofs.XC
open Go

/-! ### Rows whose elements may be written (with or without a conversion's mark) -/
section
variable {ρ : Option Nat} {ds : List Deferred} {P : Program} {T : Tab} {n : Nat} {a : Act} {e : Env} {w w' : World} {o o' : Nat → Nat} {L : Nat} {Q : Exit → Act → World → Prop} {K : Act → World → Prop}
  {d : Option Tmp} {ty : TypeId} {pos : String} {af : Array Edge} {g : Option (Nat × Bool)} {α : Type} {E : Enc α}
theorem KnD.re (h : KnD n ds a e) (ks : List Nat) {e1 e2 : Env} (hp : XC.pick e ks = some e1) (he : e1 = e2) : KnD n ds a e2 := he ▸ KnD.pick h hp
def BxM (b : Nat) (t : TypeId) (mk : Nat × Nat) (cs : List Value) (w : World) : Prop := w.heap[b]? = some (.cells cs.toArray t mk)
def Wr {α : Type} (E : Enc α) (t : TypeId) (v : Value) (xs : List α) (w : World) : Prop :=
  (v = .slice none 0 0 ∧ xs = []) ∨ ∃ g cap cs mk, v = .slice (some ⟨g, 0, none⟩) xs.length cap ∧ BxM g t mk cs w ∧ (mk = (0, 0) ∨ cs.length ≤ mk.1) ∧ xs.length * E.sz ≤ cs.length ∧ cs.take (xs.length * E.sz) = xs.flatMap E.f
theorem Own.wr {v : Value} {xs : List α} {t : TypeId} (h : Own E t v xs w) : Wr E t v xs w := by
  rcases h.2 with ⟨rfl, h0⟩ | ⟨g, cap, cur, rfl, _, hh, h1, h2, h3, h4⟩
  · exact .inl ⟨rfl, List.length_eq_zero_iff.1 h0⟩
  · refine .inr ⟨g, cap, cur.toList, (0, 0), rfl, by simpa [BxM] using hh, .inl rfl, ?_, h4⟩
    have := congrArg List.length h4
    rw [List.length_take, flat_len] at this
    omega
theorem BxM.cell {b t : Nat} {mk : Nat × Nat} {cs : List Value} (h : BxM b t mk cs w) (j : Nat) : w.cell? ⟨b, j, none⟩ = cs[j]? := by
  unfold BxM at h
  simp [World.cell?, h]
theorem Wr.rd {A : Option Addr} {k c : Nat} {xs : List α} {t : TypeId} (h : Wr E t (.slice A k c) xs w) : RdC E A xs w := by
  intro h0
  rcases h with ⟨_, hn⟩ | ⟨g, cap, cs, mk, hv, hb, hm, hl, h4⟩
  · subst hn; simp at h0
  · injection hv with hA hk hc
    refine ⟨⟨g, 0, none⟩, hA, fun i x hx j v hv => ?_⟩
    have hf := flat_at E xs i x hx j v hv
    rw [← h4, List.getElem?_take] at hf
    split at hf
    · rw [add_flat]
      have e1 : (⟨g, 0, none⟩ : Addr).add (i * E.sz + j) = ⟨g, i * E.sz + j, none⟩ := by unfold Addr.add; split <;> simp_all
      rw [e1, BxM.cell hb]
      exact hf
    · simp at hf
theorem Wr.plain {v : Value} {xs : List α} {t : TypeId} (h : Wr E t v xs w) : ∀ A n c, v = .slice A n c → ∀ ad, A = some ad → ad.spot = none := by
  rintro A n c rfl ad rfl
  rcases h with ⟨hv, _⟩ | ⟨g, cap, cur, mk, hv, _⟩
  · cases hv
  · injection hv with hv _ _
    injection hv with hv
    rw [hv]
theorem Wr.lab {v : Value} {xs : List α} {t : TypeId} (h : Ft (Wr E t v xs) w o L) : ∀ g, v.ownBlock = some g → o g = L := by
  intro g hg
  by_cases ho : o g = L
  · exact ho
  · have h1 := h.now
    rcases h1 with ⟨rfl, _⟩ | ⟨g', cap, cs, mk, rfl, hh, _⟩
    · simp [Value.ownBlock] at hg
    · have hgg : g' = g := by simpa [Value.ownBlock] using hg
      subst hgg
      have hlt : g' < w.heap.size := (Array.getElem?_eq_some_iff.1 hh).1
      have h2 := h { w with heap := w.heap.set g' (.map #[] 0) hlt } (fun c hc hcl => by
        have : c ≠ g' := fun e => ho (e ▸ hc)
        simp [Array.getElem?_set, Ne.symm this])
      rcases h2 with ⟨hx, _⟩ | ⟨g2, cap2, cs2, mk2, hv, hh2, _⟩
      · cases hx
      · injection hv with hv _ _
        injection hv with hv
        injection hv with hv _ _
        subst hv
        unfold BxM at hh2
        simp at hh2
theorem Wr.move {v : Value} {xs : List α} {t : TypeId} (h : Wr E t v xs w) (hm : ∀ k, v.ownBlock = some k → w'.heap[k]? = w.heap[k]?) : Wr E t v xs w' := by
  rcases h with h2 | ⟨g, cap, cs, mk, rfl, hh, r⟩
  · exact .inl h2
  · exact .inr ⟨g, cap, cs, mk, rfl, (hm g (by simp [Value.ownBlock])).trans hh, r⟩
theorem Wr.ft {v : Value} {xs : List α} {t : TypeId} (h : Wr E t v xs w) (ho : ∀ k, v.ownBlock = some k → o k = L) : Ft (Wr E t v xs) w o L := fun w' hw =>
  h.move fun k hk => hw k (ho k hk) (by
    rcases h with ⟨rfl, _⟩ | ⟨g', cap, cs, mk, rfl, hh, _⟩
    · simp [Value.ownBlock] at hk
    · have hgg : g' = k := by simpa [Value.ownBlock] using hk
      subst hgg
      exact (Array.getElem?_eq_some_iff.1 hh).1)
theorem splice_get {β : Type} (l vs : List β) (k : Nat) (hk : k + vs.length ≤ l.length) (p : Nat) : (l.take k ++ vs ++ l.drop (k + vs.length))[p]? = if k ≤ p ∧ p < k + vs.length then vs[p - k]? else l[p]? := by
  have h1 : (l.take k).length = k := by rw [List.length_take]; omega
  by_cases c1 : p < k
  · rw [if_neg (by omega), List.append_assoc, List.getElem?_append_left (by omega), List.getElem?_take, if_pos c1]
  · rw [List.append_assoc, List.getElem?_append_right (by omega), h1]
    by_cases c2 : p < k + vs.length
    · rw [if_pos ⟨by omega, c2⟩, List.getElem?_append_left (by omega)]
    · rw [if_neg (by omega), List.getElem?_append_right (by omega), List.getElem?_drop]
      congr 1; omega
theorem run_storeCellsM {b : Nat} {t : TypeId} {mk : Nat × Nat} : ∀ (vs : List Value) (i k : Nat) (cs : List Value) (w : World), BxM b t mk cs w → (mk = (0, 0) ∨ cs.length ≤ mk.1) → (∀ v ∈ vs, v.oneCell' = true) → k + i + vs.length ≤ cs.length →
    ∃ w', (storeCells ((⟨b, 0, none⟩ : Addr).add k) vs i).run P w = .ok () w' ∧ BxM b t mk (cs.take (k + i) ++ vs ++ cs.drop (k + i + vs.length)) w' ∧ w'.os = w.os ∧ w'.tape = w.tape ∧ w'.output = w.output ∧ w'.heap.size = w.heap.size ∧ ∀ c, c ≠ b → w'.heap[c]? = w.heap[c]?
  | [], i, k, cs, w, hb, _, _, _ => ⟨w, by simp [storeCells], by simpa using hb, rfl, rfl, rfl, rfl, fun _ _ => rfl⟩
  | v :: vs, i, k, cs, w, hb, hm, h1, hl => by
    simp only [List.length_cons] at hl
    have had : ((⟨b, 0, none⟩ : Addr).add k).add i = ⟨b, k + i, none⟩ := by
      unfold Addr.add
      by_cases hk : k = 0 <;> by_cases hi : i = 0 <;> simp [hk, hi]
    have hc : w.cell? ⟨b, k + i, none⟩ = cs[k + i]? := BxM.cell hb _
    have hsome : cs[k + i]? = some cs[k + i] := List.getElem?_eq_getElem (by omega)
    have hfr : w.frozen? ⟨b, k + i, none⟩ = false := by
      unfold BxM at hb
      obtain ⟨lo, hi⟩ := mk
      simp only [World.frozen?, hb]
      rcases hm with hm | hm
      · simp only [Prod.mk.injEq] at hm
        obtain ⟨rfl, rfl⟩ := hm
        simp
      · simp only at hm
        have : ¬ lo ≤ k + i := by omega
        simp [this]
    have hb2 : BxM b t mk (cs.set (k + i) v) (w.setCell ⟨b, k + i, none⟩ v) := by
      unfold BxM at hb ⊢
      have hlt : b < w.heap.size := (Array.getElem?_eq_some_iff.1 hb).1
      simp only [World.setCell]
      rw [Array.getElem?_modify]
      simp [hb]
    obtain ⟨w', hr, hb', ho, htp, hout, hsz, hk'⟩ := run_storeCellsM vs (i + 1) k (cs.set (k + i) v) _ hb2 (by simpa using hm) (fun u hu => h1 u (List.mem_cons_of_mem _ hu)) (by simp only [List.length_set]; omega)
    refine ⟨w', ?_, ?_, ho.trans rfl, htp.trans rfl, hout.trans rfl, hsz.trans (by simp), fun c hc' => (hk' c hc').trans ?_⟩
    · simp only [storeCells, Sem.run_bind, had, run_store P w _ v .plain (h1 v List.mem_cons_self), hc, hsome, hfr]
      simpa using hr
    · have e1 : (cs.set (k + i) v).take (k + (i + 1)) = cs.take (k + i) ++ [v] := by
        rw [List.take_set, ← Nat.add_assoc, List.take_succ_eq_append_getElem (by omega : k + i < cs.length)]
        rw [List.set_append_right _ _ (by simp; omega)]
        simp [Nat.min_eq_left (by omega : k + i ≤ cs.length)]
      have e2 : (cs.set (k + i) v).drop (k + (i + 1) + vs.length) = cs.drop (k + i + (vs.length + 1)) := by
        rw [List.drop_set_of_lt (by omega)]
        congr 1
        omega
      rw [e1, e2] at hb'
      simpa using hb'
    · exact setCell_far w ⟨b, k + i, none⟩ v c hc'
/-- What a store into an element makes of the row. -/
theorem flat_set {xs : List α} {i j : Nat} {x0 y : α} {cs vs : List Value} (hi : xs[i]? = some x0) (hl : xs.length * E.sz ≤ cs.length) (h4 : cs.take (xs.length * E.sz) = xs.flatMap E.f) (hj : j + vs.length ≤ E.sz)
    (hc : (E.f x0).take j ++ vs ++ (E.f x0).drop (j + vs.length) = E.f y) :
    (cs.take (i * E.sz + j) ++ vs ++ cs.drop (i * E.sz + j + vs.length)).take ((xs.set i y).length * E.sz) = (xs.set i y).flatMap E.f := by
  have hil : i < xs.length := (List.getElem?_eq_some_iff.1 hi).1
  have hii : (i + 1) * E.sz ≤ xs.length * E.sz := Nat.mul_le_mul_right _ hil
  have hi1 : (i + 1) * E.sz = i * E.sz + E.sz := by rw [Nat.add_mul]; omega
  apply List.ext_getElem?
  intro p
  rw [List.getElem?_take]
  simp only [List.length_set]
  split
  · rename_i hp
    have hpos : 0 < E.sz := by
      rcases Nat.eq_zero_or_pos E.sz with h0 | h0
      · rw [h0] at hp; omega
      · exact h0
    have hq : p / E.sz < xs.length := (Nat.div_lt_iff_lt_mul hpos).2 hp
    have hr : p % E.sz < E.sz := Nat.mod_lt _ hpos
    have ep : p / E.sz * E.sz + p % E.sz = p := by rw [Nat.mul_comm]; exact Nat.div_add_mod p E.sz
    generalize hqq : p / E.sz = q at *
    generalize hrr : p % E.sz = r at *
    have hcp : cs[p]? = (E.f xs[q])[r]? := by
      obtain ⟨v, hv⟩ : ∃ v, (E.f xs[q])[r]? = some v := ⟨(E.f xs[q])[r]'(by rw [E.len]; exact hr), List.getElem?_eq_getElem (by rw [E.len]; exact hr)⟩
      have := flat_at E xs q xs[q] (List.getElem?_eq_getElem hq) r v hv
      rw [← h4, ep, List.getElem?_take, if_pos hp] at this
      rw [this, hv]
    rw [splice_get cs vs (i * E.sz + j) (by omega), hcp]
    by_cases hqi : q = i
    · subst hqi
      have hx : xs[q] = x0 := by rw [List.getElem?_eq_getElem hq] at hi; exact Option.some.inj hi
      obtain ⟨v, hv⟩ : ∃ v, (E.f y)[r]? = some v := ⟨_, List.getElem?_eq_getElem (by rw [E.len]; exact hr)⟩
      have := flat_at E (xs.set q y) q y (by simp [hq]) r v hv
      rw [ep] at this
      rw [this, ← hv, ← hc, splice_get (E.f x0) vs j (by rw [E.len]; exact hj), hx]
      by_cases c1 : j ≤ r ∧ r < j + vs.length
      · rw [if_pos c1, if_pos (by omega)]; congr 1; omega
      · rw [if_neg c1, if_neg (by omega)]
    · have hne : ¬(i * E.sz + j ≤ p ∧ p < i * E.sz + j + vs.length) := by
        rcases Nat.lt_or_ge q i with hlt | hge
        · have : (q + 1) * E.sz ≤ i * E.sz := Nat.mul_le_mul_right _ hlt
          rw [Nat.add_mul] at this; omega
        · have : (i + 1) * E.sz ≤ q * E.sz := Nat.mul_le_mul_right _ (by omega)
          omega
      rw [if_neg hne]
      obtain ⟨v, hv⟩ : ∃ v, (E.f xs[q])[r]? = some v := ⟨(E.f xs[q])[r]'(by rw [E.len]; exact hr), List.getElem?_eq_getElem (by rw [E.len]; exact hr)⟩
      have := flat_at E (xs.set i y) q xs[q] (by rw [List.getElem?_set_ne (Ne.symm hqi)]; exact List.getElem?_eq_getElem hq) r v hv
      rw [ep] at this
      rw [this, hv]
  · rename_i hp
    rw [List.getElem?_eq_none (by rw [flat_len, List.length_set]; omega)]
/-- A store into an element, of a row that may be written. -/
theorem wr_store (ht : TabOK P T) (hk : KnD n ds a e) {t s bb tt : Nat} {z : Value} {x y : Operand} {ad ad' : Addr} {v : Value} {xs : List α} {i : Int} {j c : Nat} {dx y' : α}
    (hi : find T.inf t = some (s, bb, z)) (hx : evo e x = some (.pointer (some ad'))) (hy : evo e y = some v) (f : Ft (Wr E tt (.slice (some ad) xs.length c) xs) w o L) (had : ad' = (ad.add (i.toNat * E.sz)).add j) (hin : 0 ≤ i ∧ i < (xs.length : Int))
    (hs : v.cells.size = s) (h1 : (v.cells.toList.all Value.oneCell') = true) (hj : Nat.ble (j + s) E.sz = true) (hc : (E.f (rdD dx xs i)).take j ++ v.cells.toList ++ (E.f (rdD dx xs i)).drop (j + s) = E.f y') :
    ∃ w', (execOp a.eval (Oper.mk d (.store t x y) ty pos af g)).run P w = .ok .skip w' ∧ St [L] w o w' o ∧ Ft (Wr E tt (.slice (some ad) (xs.set i.toNat y').length c) (xs.set i.toNat y')) w' o L ∧
      (∀ k, (Value.slice (some ad) xs.length c).ownBlock = some k → ∃ cs cs', (w.heap[k]? = some (.cells cs tt (0, 0)) → w'.heap[k]? = some (.cells cs' tt (0, 0))) ∧ cs'.size = cs.size ∧ (∃ mk, w.heap[k]? = some (.cells cs tt mk))) := by
  have hil : i.toNat < xs.length := by omega
  have hx0 : xs[i.toNat]? = some (rdD dx xs i) := by simp [rdD, List.getD_eq_getElem?_getD, List.getElem?_eq_getElem hil]
  have hlab := Wr.lab f
  have f0 := f.now
  rcases f0 with ⟨h0, _⟩ | ⟨b, cap, cs, mk, hv, hb, hm, hl, h4⟩
  · cases h0
  · injection hv with hA _ hcap
    injection hA with hA
    subst hA
    have hL : o b = L := hlab b rfl
    have hvl : v.cells.toList.length = s := by simpa using hs
    have hj' : j + v.cells.toList.length ≤ E.sz := by rw [hvl]; simpa using hj
    have hle : (i.toNat + 1) * E.sz ≤ xs.length * E.sz := Nat.mul_le_mul_right _ hil
    rw [Nat.add_mul] at hle
    obtain ⟨w', hr, hb', ho, htp, hout, hsz, hk'⟩ := run_storeCellsM (P := P) (mk := mk) v.cells.toList 0 (i.toNat * E.sz + j) cs w hb hm (fun u hu => List.all_eq_true.1 h1 u hu) (by omega)
    refine ⟨w', ?_, ⟨ho, htp, hout, by omega, fun _ _ _ => rfl, fun q _ hcm => hk' q (fun e => hcm (by rw [e, hL]; simp))⟩, ?_, ?_⟩
    · rw [add_flat] at had
      simp [execOp, Instr.storeAt, hk.ev hx, hk.ev hy, Instr.sureAddr, storeVar, hs, run_sizeOf' ht hi, had, hr]
    · refine Wr.ft ?_ (fun k hk2 => hlab k hk2)
      refine .inr ⟨b, c, _, mk, rfl, hb', ?_, ?_, ?_⟩
      · rcases hm with hm | hm
        · exact .inl hm
        · refine .inr ?_
          simp only [List.length_append, List.length_take, List.length_drop, Nat.add_zero]
          omega
      · simp only [List.length_append, List.length_take, List.length_drop, Nat.add_zero, List.length_set]
        omega
      · have := flat_set (E := E) (j := j) (vs := v.cells.toList) (y := y') hx0 hl h4 hj' (by rw [hvl]; exact hc)
        simpa using this
    · intro k hk2
      have : b = k := by simpa [Value.ownBlock] using hk2
      subst this
      unfold BxM at hb hb'
      refine ⟨cs.toArray, (cs.take (i.toNat * E.sz + j + 0) ++ v.cells.toList ++ cs.drop (i.toNat * E.sz + j + 0 + v.cells.toList.length)).toArray, fun h => ?_, ?_, mk, hb⟩
      · rw [hb] at h
        injection h with h
        injection h with _ _ h
        subst h
        exact hb'
      · simp only [List.size_toArray, List.length_append, List.length_take, List.length_drop, Nat.add_zero]
        omega
theorem op_storeW (ht : TabOK P T) (hk : KnD n ds a e) {t s bb tt : Nat} {z : Value} {x y : Operand} {ad ad' : Addr} {v : Value} {xs : List α} {i : Int} {j c : Nat} {dx y' : α}
    (hi : find T.inf t = some (s, bb, z)) (hx : evo e x = some (.pointer (some ad'))) (hy : evo e y = some v) (f : Ft (Wr E tt (.slice (some ad) xs.length c) xs) w o L) (had : ad' = (ad.add (i.toNat * E.sz)).add j) (hin : 0 ≤ i ∧ i < (xs.length : Int))
    (hs : v.cells.size = s) (h1 : (v.cells.toList.all Value.oneCell') = true) (hj : Nat.ble (j + s) E.sz = true) (hc : (E.f (rdD dx xs i)).take j ++ v.cells.toList ++ (E.f (rdD dx xs i)).drop (j + s) = E.f y')
    (h : ∀ w' o', St [L] w o w' o' → Ft (Wr E tt (.slice (some ad) (xs.set i.toNat y').length c) (xs.set i.toNat y')) w' o' L → K (a.put d undef) w') :
    (Oper.mk d (.store t x y) ty pos af g).wpIn (WF ρ) 0 P a w K Q := by
  obtain ⟨w', hr, hst, hf, _⟩ := wr_store (d := d) (ty := ty) (pos := pos) (af := af) (g := g) ht hk hi hx hy f had hin hs h1 hj hc
  exact op_of_skip hr (h _ _ hst hf)
theorem op_storeO (ht : TabOK P T) (hk : KnD n ds a e) {t s bb tt : Nat} {z : Value} {x y : Operand} {ad ad' : Addr} {v : Value} {xs : List α} {i : Int} {j c : Nat} {dx y' : α}
    (hi : find T.inf t = some (s, bb, z)) (hx : evo e x = some (.pointer (some ad'))) (hy : evo e y = some v) (f : Ft (Own E tt (.slice (some ad) xs.length c) xs) w o L) (had : ad' = (ad.add (i.toNat * E.sz)).add j) (hin : 0 ≤ i ∧ i < (xs.length : Int))
    (hs : v.cells.size = s) (h1 : (v.cells.toList.all Value.oneCell') = true) (hj : Nat.ble (j + s) E.sz = true) (hc : (E.f (rdD dx xs i)).take j ++ v.cells.toList ++ (E.f (rdD dx xs i)).drop (j + s) = E.f y')
    (h : ∀ w' o', St [L] w o w' o' → Ft (Own E tt (.slice (some ad) (xs.set i.toNat y').length c) (xs.set i.toNat y')) w' o' L → K (a.put d undef) w') :
    (Oper.mk d (.store t x y) ty pos af g).wpIn (WF ρ) 0 P a w K Q := by
  obtain ⟨w', hr, hst, hf, hcs⟩ := wr_store (d := d) (ty := ty) (pos := pos) (af := af) (g := g) ht hk hi hx hy (f.imp fun _ h => h.wr) had hin hs h1 hj hc
  refine op_of_skip hr (h _ _ hst (Own.ft ?_ (fun k hk2 => Own.lab f k hk2)))
  have f0 := f.now
  rcases f0.2 with ⟨h0, _⟩ | ⟨b, cap, cur, hv, hb0, hh, h1', h2', h3', h4'⟩
  · cases h0
  · injection hv with hA _ hcap
    injection hA with hA
    subst hA
    obtain ⟨cs, cs', himp, hsz, mk, hb2⟩ := hcs b rfl
    rw [hh] at hb2
    injection hb2 with hb2
    injection hb2 with e1 _ e2
    subst e1; subst e2
    have hh' := himp hh
    rcases hf.now with ⟨hx', _⟩ | ⟨b2, cap2, cs2, mk2, hv2, hbb, hmm, hll, h44⟩
    · cases hx'
    · injection hv2 with hA2 _ hc2
      injection hA2 with hA2
      injection hA2 with hA2 _ _
      subst hA2
      unfold BxM at hbb
      rw [hh'] at hbb
      injection hbb with hbb
      injection hbb with e3 _ _
      refine ⟨flat_len E _, .inr ⟨b, c, cs', rfl, Nat.zero_le _, hh', ?_, ?_, ?_, ?_⟩⟩
      · rw [List.length_set]; omega
      · omega
      · rw [hsz, h3', hcap]
      · rw [e3, List.toList_toArray]; exact h44
/-- []byte(s) -/
def numsOf (s : ByteArray) : List Int := s.data.toList.map fun b => (b.toNat : Int)
theorem numsOf_len (s : ByteArray) : (numsOf s).length = s.size := by
  show (s.data.toList.map _).length = s.data.size
  simp
theorem op_bytes (ht : TabOK P T) (hk : KnD n ds a e) {sT dT el : Nat} {x : Operand} {s : ByteArray} (hu : find T.und dT = some (.slice el)) (hel : find T.und el = some (.int .u8)) (hd : find T.und sT = some .string)
    (hx : evo e x = some (.string s)) (L : Nat)
    (h : ∀ A c w' o', St [] w o w' o' → Ft (Wr (encInt .u8) el (.slice A (numsOf s).length c) (numsOf s)) w' o' L → (numsOf s).length ≤ c → K (a.put d (.slice A (numsOf s).length c)) w') :
    (Oper.mk d (.convert sT dT x) ty pos af g).wpIn (WF ρ) 0 P a w K Q := by
  have hsz : (Lib.bytesCells w el s).size = s.size + (grownCap w s.size 0 el - s.size) := by
    show _ = s.data.size + _
    simp only [Lib.bytesCells, Array.size_append, Array.size_map, Array.size_replicate]
  have hgc : s.size ≤ grownCap w s.size 0 el := by
    have := grownCap_ge w s.size 0 el
    omega
  have hrun := Lib.run_convert_string_bytes (P := P) w sT dT el s (ht.u hd) (ht.u hu) (ht.u hel)
  rw [← numsOf_len] at hrun
  rw [numsOf_len] at hrun
  refine op_of_run (v := .slice (some ⟨w.heap.size, 0, none⟩) s.size (grownCap w s.size 0 el)) (w' := Lib.bytesWorld w el s) ?_ ?_
  · simp [execOp, hk.ev hx, hrun]
  · rw [← numsOf_len]
    refine h (some ⟨w.heap.size, 0, none⟩) _ _ (newLab o w.heap.size L) ⟨rfl, rfl, rfl, by rw [Lib.bytesWorld_size]; omega, fun b hb _ => by simp [newLab, Nat.ne_of_lt hb], fun b hb _ => Lib.bytesWorld_at_old w el s b hb⟩ (Wr.ft ?_ ?_) (by rw [numsOf_len]; exact hgc)
    · refine .inr ⟨w.heap.size, _, (Lib.bytesCells w el s).toList, _, rfl, by unfold BxM; rw [Array.toArray_toList]; exact Lib.bytesWorld_at_new w el s, .inr (by simp), ?_, ?_⟩
      · rw [numsOf_len]; simp only [Array.length_toList, hsz, encInt]; omega
      · simp only [Lib.bytesCells, numsOf_len, encInt, Nat.mul_one, Array.toList_append, Array.toList_map]
        have hl : (s.data.toList.map fun b => Value.int .u8 (b.toNat : Int)).length = s.size := by
          show _ = s.data.size
          simp
        rw [List.take_append_of_le_length (by rw [hl]; omega), List.take_of_length_le (by rw [hl]; omega)]
        simp only [numsOf]
        induction s.data.toList with
        | nil => rfl
        | cons x l ih => simp only [List.map_cons, List.flatMap_cons, ih, List.singleton_append]
    · intro k hk2
      have : w.heap.size = k := by simpa [Value.ownBlock] using hk2
      subst this
      simp [newLab]
end
end Go.Proofs.XC
