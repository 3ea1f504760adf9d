/- Words of an own calculus over the model: how a call's frame, rows and boxes go through its operations. -/
import Derived.Test.YthmlldkmgdjeoaaY41
import Derived.Shelf.SlIterI.Collect
set_option linter.unusedSimpArgs false
set_option linter.unusedVariables false
namespace Go.Proofs.XC
open Go Go.MapKept Go.Maps Go.Proofs

/-! ### A map's keys, collected -/
/-- What is asked of a map whose keys are collected. -/
def KeysOK {β : Type} (m : M β) : Prop := m.isNil = false ∧ m.length ≤ 1000000000 ∧ ∀ k ∈ m.keys, -9223372036854775808 ≤ k ∧ k ≤ 9223372036854775807
instance {β : Type} (m : M β) : Decidable (KeysOK m) := by unfold KeysOK; infer_instance
theorem insert_perm {H : Type} (x : Lit × DataW H) : ∀ l : List (Lit × DataW H), (DataW.insert x l).Perm (x :: l)
  | [] => List.Perm.refl _
  | y :: r => by
    unfold DataW.insert
    split
    · exact List.Perm.refl _
    · exact ((insert_perm x r).cons y).trans (List.Perm.swap x y r)
theorem sorted_perm {H : Type} : ∀ l : List (Lit × DataW H), (l.foldr DataW.insert []).Perm l
  | [] => List.Perm.refl _
  | x :: l => (insert_perm x _).trans ((sorted_perm l).cons x)
section
variable {P : Program} {w w' : World} {o o' : Nat → Nat} {α β : Type} {D : ND α} {ag : Bool} {A : Option Addr} {m : M α} {E : Enc β}
abbrev anyR : Value → Option (DataW Unit × List MemPlace) := fun _ => some (.nil, [])
theorem wfK {k : Int} (h : -9223372036854775808 ≤ k ∧ k ≤ 9223372036854775807) : (Lit.int .i64 k).wf = true := by
  have e1 : IntKind.i64.min = -9223372036854775808 := by decide
  have e2 : IntKind.i64.max = 9223372036854775807 := by decide
  simp only [Lit.wf, Bool.and_eq_true, decide_eq_true_eq, e1, e2]
  exact h
theorem keyOf64 {t : TypeId} {k : Int} (ht : P.underlying t = some (.int .i64)) (h : -9223372036854775808 ≤ k ∧ k ≤ 9223372036854775807) : keyOf P t (.int .i64 k) = some (.int .i64 k) := by
  have := wfK h
  simp [keyOf, ht, mapKey, this]
theorem ownsMap_of {t : TypeId} {g : M β} {b : Nat} (ht : P.underlying t = some (.int .i64)) (h : MpF E ag (some ⟨b, 0, none⟩) g w) (hK : KeysOK g) :
    ∃ D : DataW Unit, w.ownsMap P t anyR b g.length D ∧ (intKeys D).Perm g.keys ∧ Maps.size D = g.length := by
  obtain ⟨h1, h2, h3⟩ := hK
  rcases h with ⟨h, _⟩ | ⟨b', l, hA, rfl, es, ck, hb, hs, he⟩
  · cases h
  have hbb : b = b' := by injection hA with hA; injection hA
  subst hbb
  have hl : es.size = l.length := MapAt.len (b := b) he
  have hkeys : ∀ x ∈ es.toList, ∃ k : Int, x.key = .int .i64 k ∧ k ∈ l.map (·.1) := by
    intro x hx
    obtain ⟨j, hj⟩ := List.getElem?_of_mem hx
    obtain ⟨k, y, q1, q2, _⟩ := ents_at he (by simpa using hj)
    exact ⟨k, q2, List.mem_map.2 ⟨(k, y), List.mem_of_getElem? q1, rfl⟩⟩
  have hrd : ∀ x ∈ es.toList, ∃ k : Int, x.key = .int .i64 k ∧ WideElems.rd P t anyR x = some (.int .i64 k, .nil) := by
    intro x hx
    obtain ⟨k, q1, q2⟩ := hkeys x hx
    refine ⟨k, q1, ?_⟩
    unfold WideElems.rd
    rw [q1, keyOf64 ht (h3 k q2)]
    rfl
  have hrg : (es.toList.map (WideElems.rg P t anyR)).map (fun p => intOf p.1) = l.map (·.1) := by
    have e1 : (es.toList.map (WideElems.rg P t anyR)).map (fun p => intOf p.1) = (es.toList.map (fun e => (e.key, e.val))).map (fun p => match p.1 with | .int _ a => a | _ => 0) := by
      rw [List.map_map, List.map_map]
      refine List.map_congr_left fun x hx => ?_
      obtain ⟨k, q1, q2⟩ := hrd x hx
      simp [WideElems.rg, q2, q1, intOf]
    rw [e1, he, List.map_map]
    exact List.map_congr_left fun x _ => rfl
  refine ⟨_, ⟨es, ck, hb, ⟨by rw [hl]; simp only [maxLen]; have : (⟨some l⟩ : M β).length = l.length := rfl; omega, hs, fun x hx => ?_⟩, by rw [hl]; exact Nat.le_refl _, rfl⟩, ?_, ?_⟩
  · obtain ⟨k, _, q2⟩ := hrd x hx
    exact ⟨_, q2⟩
  · show (((es.toList.map (WideElems.rg P t anyR)).foldr DataW.insert []).map fun p => intOf p.1).Perm (l.map (·.1))
    rw [← hrg]
    exact (sorted_perm _).map _
  · show ((es.toList.map (WideElems.rg P t anyR)).foldr DataW.insert []).length = l.length
    rw [(sorted_perm _).length_eq, List.length_map, Array.length_toList, hl]
theorem keysOK_map {γ δ : Type} {f : γ → δ} {g : M γ} (h : KeysOK (g.map f)) : KeysOK g := by
  obtain ⟨h1, h2, h3⟩ := h
  rw [M.isNil_map] at h1
  rw [M.length_map] at h2
  rw [M.keys_map] at h3
  exact ⟨h1, h2, h3⟩
theorem flatZ : ∀ ss : List Int, ss.flatMap (encInt .i64).f = ss.map encZ
  | [] => rfl
  | x :: r => by rw [List.flatMap_cons, flatZ r]; rfl
theorem collect_of {ρ ρ2 : Shelf.Ren} (C : SlLaysZI.n8 P ρ) (C2 : SlLaysZI.n10 P ρ2) (eI : EntersF P (ρ2.f 10)) (ht : ρ2.t 26 = ρ.t 26)
    (bx tM : Nat) (A : Option Addr) (m : M α) (w : World) (o : Nat → Nat) {Lb Lm F : Nat} (hb : Ft (Bx bx tM [mv A]) w o Lb) (hm : MpN D ag A m w o Lm F) (hK : KeysOK m) (R0 : Nat) :
    Calls P (ρ.f 8) #[.func (.func (ρ2.f 10)) #[] #[.pointer (some ⟨bx, 0, none⟩)]] w (Ret fun v_ w' => ∃ o' : Nat → Nat, ∃ A' c, ∃ ks : List Int, v_ = .slice A' ks.length c ∧ St [] w o w' o' ∧ ks.Perm m.keys ∧ Ft (Own (encInt .i64) (ρ.t 26) (.slice A' ks.length c) ks) w' o' R0 ∧ ks.length ≤ c) := by
  obtain ⟨g, e1, e2, e3⟩ := hm
  subst e1
  have hK2 := keysOK_map hK
  have hg := e2.now
  obtain ⟨b, rfl⟩ : ∃ b, A = some ⟨b, 0, none⟩ := by
    rcases hg with ⟨_, rfl⟩ | ⟨b, l, rfl, _⟩
    · exact absurd hK2.1 (by simp [M.nil, M.isNil])
    · exact ⟨b, rfl⟩
  obtain ⟨D0, hown, hp, hsz⟩ := ownsMap_of (P := P) (t := ρ2.t 26) C2.t26 hg hK2
  have hbox : w.heap[bx]? = some (.cells #[.map (some b)] tM (0, 0)) := hb.now
  have hlt : bx < w.heap.size := (Array.getElem?_eq_some_iff.1 hbox).1
  have hcell := (cell_of_box_a hbox).1
  have hseq := AnyZI.keys_gives C2 Fence.wide 3 trivial rfl (by omega) bx b g.length D0 w hlt hcell hown
  have hcol := AnyZI.collect_in C Fence.wide 5 trivial trivial rfl (by omega) (ρ2.f 10) #[.pointer (some ⟨bx, 0, none⟩)] trivial eI (fun ss => ss.Perm (intKeys D0)) (Maps.size D0) (by rw [hsz]; simp only [maxLen]; have := hK2.2.1; omega) (by rw [hsz]; have := hK2.2.1; omega) w hseq
  refine callsIn_wide.1 (CallsIn.mono hcol fun e w' he => ?_)
  obtain ⟨v, ss, rfl, hS, hrow, hnil, hbel⟩ := he
  have hOwn : Own (encInt .i64) (ρ.t 26) v ss w' := by
    have := ownsRow_base_a hrow (Nat.zero_le w.heap.size)
    unfold Own
    rw [flatZ]
    exact this
  obtain ⟨A', c, rfl, hc, _⟩ := hOwn.shape
  refine ⟨_, rfl, fun k => if k < w.heap.size then o k else R0, A', c, ss, rfl, ⟨hbel.os, hbel.tape, hbel.output, hbel.size, fun k hk _ => by simp [hk], fun k hk _ => hbel.block k hk⟩, (hS.trans hp).trans (by rw [M.keys_map]), hOwn.ft fun k hk => ?_, hc⟩
  have hge : ¬ k < w.heap.size := by
    rcases hrow.2 with ⟨h1, _⟩ | ⟨g', cap, cur, h1, h2, _⟩
    · rw [h1] at hk; cases hk
    · rw [h1] at hk
      injection hk with hk
      simp only at hk
      omega
  simp [hge]
end
end Go.Proofs.XC
