/- Words of an own calculus over the model: how a call's frame, rows and boxes go through its operations. -/
import Derived.Test.YtmgopcmdljhjoaaY8
set_option linter.unusedSimpArgs false
set_option linter.unusedVariables false
namespace Go.Proofs.XC
open Go

section
variable {ρ : Option Nat} {ds : List Deferred} {P : Program} {T : Tab} {n : Nat} {a : Act} {e : Env} {w w' W W2 : World} {o o' of o2 o1 : Nat → Nat} {L l : Nat} {M N : List Nat} {Q : Exit → Act → World → Prop} {K : Act → World → Prop}
  {d : Option Tmp} {ty : TypeId} {pos : String} {af : Array Edge} {g : Option (Nat × Bool)} {α : Type} {E : Enc α}

theorem ifS {p : Prop} [Decidable p] {β : Type} {x : Option β} {r : β} (h : (if p then x else none) = some r) : p ∧ x = some r := by
  split at h
  · exact ⟨‹_›, h⟩
  · cases h
theorem bifT {β : Type} {x y : Option β} {r : β} (h : (bif true then x else y) = some r) : x = some r := h
theorem bifF {β : Type} {x y : Option β} {r : β} (h : (bif false then x else y) = some r) : y = some r := h
theorem bindS {β γ : Type} {x : Option β} {f : β → Option γ} {r : γ} (h : x.bind f = some r) : ∃ t, x = some t ∧ f t = some r := Option.bind_eq_some_iff.1 h
theorem KnD.pick (h : KnD n ds a e) {ks : List Nat} {e' : Env} (hp : XC.pick e ks = some e') : KnD n ds a e' := h.sub (pick_sub hp)

/-! ### Labels at the begin and at the end -/
theorem St.start (w : World) (o : Nat → Nat) : ∃ oi : Nat → Nat, St [] w (fun _ => 0) w oi ∧ ∀ (P : World → Prop) (L : Nat), Ft P w o L → Ft P w oi 0 :=
  ⟨fun _ => 0, St.refl _ _ _, fun P L h => h.mono fun _ _ _ => rfl⟩
theorem St.loc0 (h : St [] w (fun _ => 0) W o) (k : St N W o W2 o2) (h0 : 0 ∉ N) : St [] w (fun _ => 0) W2 o2 :=
  ⟨k.os.trans h.os, k.tape.trans h.tape, k.output.trans h.output, Nat.le_trans h.size k.size, fun b hb _ => (k.lab b (Nat.lt_of_lt_of_le hb h.size) (by rw [h.lab b hb (by simp)]; exact h0)).trans (h.lab b hb (by simp)),
   fun b hb _ => (k.kept b (Nat.lt_of_lt_of_le hb h.size) (by rw [h.lab b hb (by simp)]; exact h0)).trans (h.kept b hb (by simp))⟩
theorem St.close0 (h : St [] w (fun _ => 0) W of) (o : Nat → Nat) (ρ : Nat → Nat) : St [] w o W (fun b => if b < w.heap.size then o b else ρ (of b)) :=
  ⟨h.os, h.tape, h.output, h.size, fun b hb _ => by simp [hb], fun b hb _ => h.kept b hb (by simp)⟩
theorem St.close_ft {P : World → Prop} (h : St [] w (fun _ => 0) W of) (f : Ft P W of l) (hl : l ≠ 0) {o ρ : Nat → Nat} (hρ : ρ l = L) : Ft P W (fun b => if b < w.heap.size then o b else ρ (of b)) L :=
  f.mono fun b hb _ => by
    by_cases hlt : b < w.heap.size
    · exact absurd ((h.lab b hlt (by simp)).symm.trans hb).symm hl
    · simp [hlt, hb, hρ]
theorem St.relab0 (h : St [] w (fun _ => 0) W o) (ρ : Nat → Nat) (h0 : ρ 0 = 0) : St [] w (fun _ => 0) W (fun b => ρ (o b)) :=
  ⟨h.os, h.tape, h.output, h.size, fun b hb hm => by rw [h.lab b hb hm]; exact h0, h.kept⟩
theorem Ft.relab {P : World → Prop} (h : Ft P W o l) (ρ : Nat → Nat) (hρ : ρ l = L) : Ft P W (fun b => ρ (o b)) L := h.mono fun b hb _ => by rw [hb]; exact hρ

/-! ### Loads of boxes and elements -/
theorem load_box (ht : TabOK P T) {t s bb b t' k : Nat} {z : Value} {cs cs' : List Value} (ha : aggT T t = some true) (hi : find T.inf t = some (s, bb, z)) (hb : Bx b t' cs w) (hc : (cs.drop k).take s = cs') (hl : cs'.length = s) :
    LoadIs P t ((⟨b, 0, none⟩ : Addr).add k) (.agg cs'.toArray) w :=
  loadN ht ha hi hl fun j hj => by rw [Bx.cell2 hb, ← hc, List.getElem?_take, if_pos hj, List.getElem?_drop]
theorem load_elem (ht : TabOK P T) {t bb : Nat} {z : Value} {ad : Addr} {xs : List α} {dx : α} {i : Int} (ha : aggT T t = some true) (hi : find T.inf t = some (E.sz, bb, z)) (h : RdC E (some ad) xs w) (hb : 0 ≤ i ∧ i < (xs.length : Int)) :
    LoadIs P t (ad.add (i.toNat * E.sz)) (.agg (E.f (rdD dx xs i)).toArray) w :=
  loadN ht ha hi (E.len _) fun j hj => by
    obtain ⟨v, hv⟩ : ∃ v, (E.f (rdD dx xs i))[j]? = some v := ⟨_, List.getElem?_eq_getElem (by rw [E.len]; exact hj)⟩
    rw [hv]
    exact RdC.at h hb hv

/-! ### Results -/
def ResAll (P : Program) (e : Env) (w : World) : List ResultVar → List Value → Prop
  | [], [] => True
  | .tmp t :: rs, v :: vs => look e t = some v ∧ ResAll P e w rs vs
  | .cell t ty :: rs, v :: vs => (∃ ad, look e t = some (.pointer (some ad)) ∧ LoadIs P ty ad v w) ∧ ResAll P e w rs vs
  | _, _ => False
def tupOf : List Value → Value
  | [v] => v
  | vs => .tuple vs.toArray
def AllRun {β γ : Type} (P : Program) (w : World) (f : β → Sem γ) : List β → List γ → Prop
  | [], [] => True
  | x :: xs, v :: vs => (f x).run P w = .ok v w ∧ AllRun P w f xs vs
  | _, _ => False
theorem run_mapM_all {β γ : Type} (f : β → Sem γ) : ∀ (l : List β) (vs : List γ), AllRun P w f l vs → (l.mapM f).run P w = .ok vs w
  | [], [], _ => by simp
  | x :: xs, v :: vs, h => by
    have ih := run_mapM_all f xs vs h.2
    rw [List.mapM_cons, Sem.run_bind, h.1]
    simp only [Result.andThen_ok, Sem.run_bind, ih, Sem.run_pure]
  | [], _ :: _, h => h.elim
  | _ :: _, [], h => h.elim
theorem x_retG {fn : Func} {rs : List ResultVar} {vs : List Value} {Φ : Value → World → Prop} (hk : KnD n [] a e) (hr : fn.results = rs.toArray) (h : ResAll P e w rs vs) (hΦ : Φ (tupOf vs) w) : bodyPost P fn (Ret Φ) .ret a w := by
  refine x_ret hk (v := tupOf vs) ?_ hΦ
  unfold results
  rw [hr, List.mapM_toArray, Sem.run_bind, Sem.run_map, run_mapM_all _ rs vs ?_]
  · simp only [Result.andThen_ok, Sem.run_pure]
    congr 1
    cases vs with
    | nil => rfl
    | cons v vs => cases vs <;> simp [tupOf]
  · clear hr hΦ
    induction rs generalizing vs with
    | nil => cases vs with
      | nil => trivial
      | cons v vs => exact h.elim
    | cons r rs ih => cases vs with
      | nil => cases r <;> exact h.elim
      | cons v vs =>
        cases r with
        | tmp t => exact ⟨by simp [Array.getD_eq_getD_getElem?, hk.at_ _ _ h.1], ih h.2⟩
        | cell t ty =>
          obtain ⟨⟨ad, h1, h2⟩, h3⟩ := h
          unfold LoadIs at h2
          exact ⟨by simp [Array.getD_eq_getD_getElem?, hk.at_ _ _ h1, asAddr, h2], ih h3⟩
theorem x_endG {fn : Func} {rs : List ResultVar} {vs : List Value} {Φ : Value → World → Prop} (hk : KnD n [] a e) (hr : fn.results = rs.toArray) (h : ResAll P e w rs vs) (hΦ : Φ (tupOf vs) w) : bodyPost P fn (Ret Φ) .normal a w :=
  x_retG hk hr h hΦ

/-! ### Cuts of rows -/
theorem add_add (a : Addr) (i j : Nat) : (a.add i).add j = a.add (i + j) := by
  unfold Addr.add
  by_cases hi : i = 0 <;> by_cases hj : j = 0 <;> simp [hi, hj]
  omega
theorem RdC.cut {A : Option Addr} {c lo hi : Nat} {xs : List α} (h : RdC E A xs w) (hc : xs.length ≤ c) (h1 : lo ≤ hi) (h2 : hi ≤ xs.length) :
    RdC E (if c = lo then A else A.map (·.add (lo * E.sz))) ((xs.take hi).drop lo) w := by
  intro h0
  simp only [List.length_drop, List.length_take, Nat.min_eq_left h2] at h0
  obtain ⟨ad, rfl, hcell⟩ := h (by omega)
  rw [if_neg (by omega)]
  refine ⟨_, rfl, fun i x hx j v hv => ?_⟩
  rw [List.getElem?_drop, List.getElem?_take] at hx
  split at hx
  · have := hcell _ x hx j v hv
    rw [add_add] at this ⊢
    rw [add_add]
    rw [← this]
    congr 2
    rw [Nat.add_mul]; omega
  · cases hx
theorem run_cut {t el s b : Nat} {z : Value} (ht : TabOK P T) (hu : find T.und t = some (.slice el)) (hi : find T.inf el = some (s, b, z)) {A : Option Addr} {len cap l h : Nat} {lo hi' : Option Value} {cs : List Prop}
    (hc : cutP len cap lo hi' = some (l, h, cs)) (hp : Conj cs) : (Instr.sliceAt t (.slice A len cap) lo hi' none).run P w = .ok (.slice (if cap = l then A else A.map (·.add (l * s))) (h - l) (cap - l)) w := by
  have hr := run_underlying' (w := w) (ht.u hu)
  simp [Instr.sliceAt, Instr.slice, hr, run_cutP hc hp, run_sizeOf' ht hi]
theorem ask_cut (ht : TabOK P T) {t el bb : Nat} {z : Value} (hu : find T.und t = some (.slice el)) (hi : find T.inf el = some (E.sz, bb, z)) {A : Option Addr} {c : Nat} {xs : List α} (f : Ft (RdC E A xs) w o L) (hc : xs.length ≤ c) (lo hi' : Option Value) {l h : Nat} {cs : List Prop}
    (hcut : cutP xs.length c lo hi' = some (l, h, cs)) (hp : Conj cs) (h1 : l ≤ h) (h2 : h ≤ xs.length) :
    ∃ A' c', (∀ {e : Env} {x : Operand} {ol oh : Option Operand} {d ty pos af g}, evo e x = some (.slice A xs.length c) → optV (evo e) ol = some lo → optV (evo e) oh = some hi' → ∀ W, AskIs P e (Oper.mk d (.slice t x ol oh none) ty pos af g) (.slice A' ((xs.take h).drop l).length c') W) ∧
      Ft (RdC E A' ((xs.take h).drop l)) w o L ∧ ((xs.take h).drop l).length ≤ c' := by
  refine ⟨_, c - l, fun {e x ol oh d ty pos af g} hx hlo hhi W ρ hρ => ?_, f.imp fun W hW => RdC.cut hW hc h1 h2, by simp; omega⟩
  have e1 : ∀ (y : Option Operand) (r : Option Value), optV (evo e) y = some r → y.map ρ = r := by
    intro y r hy
    cases y with
    | none => simp only [optV, Option.some.injEq] at hy; subst hy; rfl
    | some y =>
      simp only [optV, Option.map_eq_some_iff] at hy
      obtain ⟨q, hq, rfl⟩ := hy
      simp [hρ _ _ hq]
  have hr := run_cut (P := P) (w := W) ht hu hi (A := A) hcut hp
  have hl : ((xs.take h).drop l).length = h - l := by simp [Nat.min_eq_left h2]
  simp [execOp, hρ _ _ hx, e1 _ _ hlo, e1 _ _ hhi, hr, hl]
/-- The first ones of an own row: own still. -/
theorem Own.take {t : TypeId} {A : Option Addr} {k c h : Nat} {xs : List α} (hO : Own E t (.slice A k c) xs w) (h2 : h ≤ xs.length) : Own E t (.slice A h c) (xs.take h) w := by
  obtain ⟨h0, hr⟩ := hO
  have e : (xs.take h).flatMap E.f = (xs.flatMap E.f).take (h * E.sz) := by
    clear hr h0
    induction xs generalizing h with
    | nil => simp
    | cons x xs ih =>
      cases h with
      | zero => simp
      | succ h =>
        simp only [List.take_succ_cons, List.flatMap_cons]
        have e1 : (h + 1) * E.sz = (E.f x).length + h * E.sz := by rw [E.len, Nat.add_mul]; omega
        rw [ih (by simpa using h2), e1, List.take_length_add_append]
  have hl : (xs.take h).length = h := by simp [h2]
  refine ⟨flat_len E _, ?_⟩
  rw [hl]
  rcases hr with ⟨hv, hz⟩ | ⟨g, cap, cur, hv, hb, hg, h3, h4, h5, h6⟩
  · injection hv with hA hk hc
    subst hA; subst hc
    have : h = 0 := by omega
    exact .inl ⟨by rw [this], this⟩
  · injection hv with hA hk hc
    subst hA; subst hc
    refine .inr ⟨g, c, cur, rfl, hb, hg, by omega, h4, h5, ?_⟩
    rw [e, ← h6, List.take_take]
    congr 1
    exact (Nat.min_eq_left (Nat.mul_le_mul_right _ h2)).symm
theorem ask_take (ht : TabOK P T) {t el bb : Nat} {z : Value} (hu : find T.und t = some (.slice el)) (hi : find T.inf el = some (E.sz, bb, z)) {A : Option Addr} {c : Nat} {xs : List α} (f : Ft (Own E el (.slice A xs.length c) xs) w o L) (hc : xs.length ≤ c) {k : IntKind} (m : Int)
    (h0 : 0 ≤ m) (h2 : m ≤ (xs.length : Int)) :
    ∃ A' c', (∀ {e : Env} {x oh : Operand} {d ty pos af g}, evo e x = some (.slice A xs.length c) → evo e oh = some (.int k m) → ∀ W, AskIs P e (Oper.mk d (.slice t x none (some oh) none) ty pos af g) (.slice A' (xs.take m.toNat).length c') W) ∧
      Ft (Own E el (.slice A' (xs.take m.toNat).length c') (xs.take m.toNat)) w o L ∧ (xs.take m.toNat).length ≤ c' := by
  have hm : m.toNat ≤ xs.length := by omega
  have hl : (xs.take m.toNat).length = m.toNat := by simp [hm]
  refine ⟨A, c, fun {e x oh d ty pos af g} hx hoh W ρ hρ => ?_, f.imp fun W hW => by rw [hl]; exact hW.take hm, by rw [hl]; omega⟩
  have hr := run_cut (P := P) (w := W) ht hu hi (A := A) (len := xs.length) (cap := c) (lo := none) (hi' := some (.int k m)) rfl ⟨h0, by omega, trivial⟩
  have e3 : (if c = 0 then A else A.map (·.add (0 * E.sz))) = A := by
    split
    · rfl
    · cases A <;> simp [Addr.add]
  rw [e3] at hr
  simp [execOp, hρ _ _ hx, hρ _ _ hoh, hr, hl]
end
end Go.Proofs.XC
