/- Plain laws: what the plain functions answer, with no program in sight. -/
import Derived.Test.YtpciioffkjpieaaDoorRPX
set_option linter.unusedVariables false
set_option linter.unusedSimpArgs false
namespace Go.Proofs.YtpciioffkjpieaaDoor.Pure
open Go Go.Proofs.XC Go.Proofs.YtpciioffkjpieaaDoor
open Go.Proofs.YtpciioffkjpieaaDoor.Pure4 (R putK putH putQ put_eq bad pn_range pm_le pm_pos parts_len parts_get pc_size cat_parts split_eq wholeF whole_eq which_eq wh wh_false numT numT_set numT_le getD_set getD_rep getD_at setH setQ all_numT)

theorem parse_none (K : Nat) (hK : 10000 ≤ K) (s : ByteArray) (hs : s.size ≤ 8000) (h : (openF s).2 = false) : gram_Parse K s = some (⟨0, 0, [], ⟨#[]⟩⟩, 4) := by
  unfold gram_Parse
  rw [cD, if_neg (by omega), open_eq K s (by omega) (by omega) (by omega), bS, h]
  rfl
/-- Parts that came, of L: all of them ahead of i, but bad ones. -/
structure Pt (L : List ByteArray) (s : T83) (k : Int) (H : List Bool) (Q : List ByteArray) (i b : Nat) : Prop where
  r : R s k H Q
  key : (k = 0 ∧ b = i) ∨ (k = 1 ∧ H.length = L.length ∧ numT H + b = i ∧ b < i)
  same : k = 1 → ∀ j : Nat, H.getD j false = true → Q.getD j ⟨#[]⟩ = L.getD j ⟨#[]⟩
  later : ∀ j : Nat, i ≤ j → H.getD j false = false
theorem pt_put {L : List ByteArray} {s : T83} {k : Int} {H : List Bool} {Q : List ByteArray} {i b : Nat} (h : Pt L s k H Q i b) (hi : i < L.length) (hL : L.length ≤ 1000) (hv : (L.getD i ⟨#[]⟩).size ≤ 300) :
    ∃ s' H' Q', parts_Slot_Put s 1 i (L.length : Int) (L.getD i ⟨#[]⟩) = some (0, s') ∧ Pt L s' 1 H' Q' (i + 1) b := by
  obtain ⟨s', e, r⟩ := put_eq h.r 1 i (L.length : Int) (.inl (by omega)) (L.getD i ⟨#[]⟩) hv
  have hnb : ¬ bad 1 (i : Int) (L.length : Int) := by unfold bad; omega
  have hE : Pure4.putE k H 1 i (L.length : Int) = 0 := by
    unfold Pure4.putE
    rw [if_neg hnb]
    rcases h.key with ⟨rfl, _⟩ | ⟨rfl, hl, _⟩
    · simp
    · rw [if_neg (by omega), if_pos rfl, if_pos (by omega)]
  have hK : putK k H 1 i (L.length : Int) = 1 := by
    unfold putK
    rw [if_neg hnb]
    rcases h.key with ⟨rfl, _⟩ | ⟨rfl, hl, _⟩ <;> simp
  rw [hE] at e
  rw [hK] at r
  have hlQ := h.r.len
  have core : ∀ (H : List Bool) (Q : List ByteArray), H.length = L.length → Q.length = L.length → (∀ j : Nat, H.getD j false = true → Q.getD j ⟨#[]⟩ = L.getD j ⟨#[]⟩) → (∀ j : Nat, i ≤ j → H.getD j false = false) →
      (setH H i).length = L.length ∧ (∀ j : Nat, (setH H i).getD j false = true → (setQ H Q i (L.getD i ⟨#[]⟩)).getD j ⟨#[]⟩ = L.getD j ⟨#[]⟩) ∧ numT (setH H i) = numT H + 1 ∧ ∀ j : Nat, i + 1 ≤ j → (setH H i).getD j false = false := by
    intro H Q h1 h2 h3 h4
    have c := h4 i (Nat.le_refl _)
    have c' : ¬ H.getD i false = true := by rw [c]; simp
    unfold setH setQ
    simp only [if_neg c']
    refine ⟨by rw [List.length_set]; exact h1, fun j hj => ?_, numT_set H i (by omega) c, fun j hj => ?_⟩
    · rw [getD_set _ _ _ _ _ (by omega)] at hj ⊢
      by_cases d : i = j
      · subst d; rw [if_pos rfl]
      · rw [if_neg d] at hj ⊢; exact h3 j hj
    · rw [getD_set _ _ _ _ _ (by omega), if_neg (by omega)]
      exact h4 j (by omega)
  rcases h.key with ⟨rfl, hb⟩ | ⟨rfl, hl, hn, hb⟩
  · have hH : putH 0 H 1 i (L.length : Int) = setH (List.replicate L.length false) i := by
      unfold putH; rw [if_neg hnb]; simp
    have hQ : putQ 0 H Q 1 i (L.length : Int) (L.getD i ⟨#[]⟩) = setQ (List.replicate L.length false) (List.replicate L.length ⟨#[]⟩) i (L.getD i ⟨#[]⟩) := by
      unfold putQ; rw [if_neg hnb]; simp
    rw [hH, hQ] at r
    obtain ⟨a1, a2, a3, a4⟩ := core (List.replicate L.length false) (List.replicate L.length ⟨#[]⟩) (by simp) (by simp) (fun j hj => by rw [getD_rep] at hj; cases hj) (fun j _ => getD_rep _ _ _)
    rw [Pure4.numT_rep] at a3
    exact ⟨s', _, _, e, r, .inr ⟨rfl, a1, by omega, by omega⟩, fun _ => a2, a4⟩
  · have hH : putH 1 H 1 i (L.length : Int) = setH H i := by
      unfold putH; rw [if_neg hnb, if_neg (by omega), if_pos rfl, if_pos (by omega), Int.toNat_natCast]
    have hQ : putQ 1 H Q 1 i (L.length : Int) (L.getD i ⟨#[]⟩) = setQ H Q i (L.getD i ⟨#[]⟩) := by
      unfold putQ; rw [if_neg hnb, if_neg (by omega), if_pos rfl, if_pos (by omega), Int.toNat_natCast]
    rw [hH, hQ] at r
    obtain ⟨a1, a2, a3, a4⟩ := core H Q hl (by omega) (h.same rfl) h.later
    exact ⟨s', _, _, e, r, .inr ⟨rfl, a1, by omega, by omega⟩, fun _ => a2, a4⟩
theorem pt_skip {L : List ByteArray} {s : T83} {k : Int} {H : List Bool} {Q : List ByteArray} {i b : Nat} (h : Pt L s k H Q i b) : Pt L s k H Q (i + 1) (b + 1) :=
  ⟨h.r, by rcases h.key with ⟨a, c⟩ | ⟨a, c, d, e⟩
           · exact .inl ⟨a, by omega⟩
           · exact .inr ⟨a, c, by omega, by omega⟩, h.same, fun j hj => h.later j (by omega)⟩
theorem bit_eq (b : Bool) : tidewracktop_bit b = some (if b then 1 else 0) := by cases b <;> rfl
theorem parts_end (K : Nat) (hK : 1002 ≤ K) (t : ByteArray) (L : List ByteArray) (hc : Pure4.cat L = t) (hL1 : 1 ≤ L.length) (hL : L.length ≤ 1000) {s : T83} {k : Int} {H : List Bool} {Q : List ByteArray} {b : Nat} (h : Pt L s k H Q L.length b) :
    tidewracktop_TidewrackParts_j2 K t L s.key s.count s.parts s.bytes b = some true := by
  have hs := h.r.small
  have hf := wh_false H 0
  have hnl := numT_le H
  unfold tidewracktop_TidewrackParts_j2
  show ((parts_Slot_Whole K s).bind _) = _
  have hlk : ∀ f : List Int → Option Bool, (parts_Slot_Lacks K s).bind f = f (wh false 0 H) := by
    intro f
    unfold parts_Slot_Lacks
    rw [which_eq h.r false K hK, bS, bS]
  rw [whole_eq h.r K hK, bS]
  show (bif _ then (bif _ then ((parts_Slot_Lacks K s).bind _) else (bif _ then ((parts_Slot_Lacks K s).bind _) else _)) else _) = _
  rw [hlk, bit_eq, bS]
  rcases h.key with ⟨rfl, hb⟩ | ⟨rfl, hl, hn, hb⟩
  · have hH := h.r.nil0 rfl
    subst hH
    have hw : wholeF 0 [] Q = (⟨#[]⟩, false) := rfl
    have hb0 : ((b : Int) == 0) = false := by rw [beq_eq_false_iff_ne]; omega
    have hd : decide ((b : Int) < (L.length : Int)) = false := by simp; omega
    rw [hw, hb0, beq_self_eq_true, cond_true, cD, if_pos (by omega), hd]
    simp [wh, IntKind.wrap, IntKind.bits, IntKind.signed]
  · by_cases c : b = 0
    · subst c
      have hall : ¬ ((1 : Int) = 0 ∨ numT H < H.length) := by omega
      have hQ : Q = L := by
        have hlQ := h.r.len
        apply List.ext_getElem (by omega)
        intro j h1 h2
        have hj : H.getD j false = true := by
          by_cases hh : H.getD j false = true
          · exact hh
          · exfalso
            have := numT_set H j (by omega) (by simpa using hh)
            have h5 := numT_le (H.set j true)
            rw [List.length_set] at h5
            omega
        have := h.same rfl j hj
        rw [getD_at _ _ _ h1, getD_at _ _ _ h2] at this
        exact this
      have hw : wholeF 1 H Q = (t, true) := by unfold wholeF; rw [if_neg hall, hQ, hc]
      rw [hw]
      dsimp only
      rw [show ((((0 : Nat) : Int)) == 0) = true from rfl, beq_self_eq_true, cond_true, cD, if_neg (by omega), cS, if_pos rfl]
      congr 1
      rw [hf]
      have hz : IntKind.wrap .i64 (((0 : Nat) : Int) * (if decide (((0 : Nat) : Int) < (L.length : Int)) = true then 1 else 0)) = 0 := by simp [IntKind.wrap, IntKind.bits, IntKind.signed]
      rw [hz, beq_iff_eq]; omega
    · have hw : wholeF 1 H Q = (⟨#[]⟩, false) := by unfold wholeF; rw [if_pos (.inr (by omega))]
      have hb0 : ((b : Int) == 0) = false := by rw [beq_eq_false_iff_ne]; omega
      have hd : decide ((b : Int) < (L.length : Int)) = true := by simp; omega
      rw [hw, hb0]
      dsimp only
      rw [beq_self_eq_true, cond_true, cD, if_pos (by omega), hd, if_pos rfl, w64 (by omega) (by omega), hf]
      congr 1
      rw [beq_iff_eq]; omega
theorem pack_part (K : Nat) (hK : 100000 ≤ K) (i m : Nat) (hm : m ≤ 1000) (hi : i < m) (p : ByteArray) (hp : p.size ≤ 300) :
    ∃ g : T76, g = ⟨1, 1, [1, (i : Int), (m : Int)], p⟩ ∧ gram_Gram_Pack K g = some (bytesF g) ∧ gram_Parse K (bytesF g) = some (g, 0) ∧ (bytesF g).size ≤ 800 := by
  refine ⟨_, rfl, ?_⟩
  generalize hg : (⟨1, 1, [1, (i : Int), (m : Int)], p⟩ : T76) = g
  have hsm : Sm g := by subst hg; exact ⟨by simp, by show p.size ≤ 20000; omega⟩
  have hok : OKg g := by
    subst hg
    refine ⟨⟨by show (1 : Int) ≤ 1; omega, by show (1 : Int) ≤ 4294967296; omega⟩, ⟨by show (1 : Int) ≤ 1; omega, by show (1 : Int) ≤ 4; omega⟩, by simp, fun n hn => ?_⟩
    simp only [List.mem_cons, List.not_mem_nil, or_false] at hn
    omega
  have hl : (body g).length ≤ 700 := by
    unfold body
    have g1 := catN_len [g.Epoch, g.Kind, (g.Nums.length : Int)]
    have g2 := catN_len g.Nums
    have g5 : g.Data.size ≤ 300 := by subst hg; exact hp
    have g6 : g.Nums.length = 3 := by subst hg; rfl
    have g3 := (dg9 (n := g.Data.size) (by omega)).2.1
    have g4 := numsOf_len g.Data
    simp only [List.length_append, List.length_cons, List.length_nil] at *
    omega
  have hz : (bytesF g).size = (body g).length + 4 := by unfold bytesF; rw [seal_size, str_len]
  have hc : chk g = 0 := by unfold chk; rw [if_pos hok, if_neg (by omega)]
  refine ⟨?_, parse_bytes K hK g hsm hc, by omega⟩
  rw [pack_eq K hK g hsm, if_pos hc]
theorem parts_loop (K : Nat) (hK : 100000 ≤ K) (p2 : List Int) (w2 : ∀ y ∈ p2, (WF.wfu32) y) (t : ByteArray) (L : List ByteArray) (hc : Pure4.cat L = t) (hL1 : 1 ≤ L.length) (hL : L.length ≤ 1000) (hv : ∀ x ∈ L, x.size ≤ 300) : ∀ (f i b : Nat) (s : T83) (k : Int) (H : List Bool) (Q : List ByteArray), Pt L s k H Q i b → L.length < f + i → i ≤ L.length → b ≤ i →
    tidewracktop_TidewrackParts_l3 K p2 t L f s.key s.count s.parts s.bytes b i = some true
  | 0, i, b, s, k, H, Q, h, h1, h2, h3 => by omega
  | f + 1, i, b, s, k, H, Q, h, h1, h2, h3 => by
    have ih := parts_loop K hK p2 w2 t L hc hL1 hL hv f
    unfold tidewracktop_TidewrackParts_l3
    rw [cD]
    by_cases c : i < L.length
    · have hw : IntKind.wrap .i64 ((i : Int) + 1) = ((i + 1 : Nat) : Int) := by rw [w64 (by omega) (by omega)]; omega
      have hw2 : IntKind.wrap .i64 ((b : Int) + 1) = ((b + 1 : Nat) : Int) := by rw [w64 (by omega) (by omega)]; omega
      have hsz : (L.getD i ⟨#[]⟩).size ≤ 300 := by rw [getD_at _ _ _ c]; exact hv _ (List.getElem_mem c)
      obtain ⟨g, hg, e1, e2, e3⟩ := pack_part K hK i L.length hL c (L.getD i ⟨#[]⟩) hsz
      rw [if_pos (by omega), if_pos (by omega), rdD_nat, ← hg, e1, bS]
      have hj4 : tidewracktop_TidewrackParts_j4 K s.key s.count s.parts s.bytes b i (tidewracktop_TidewrackParts_l3 K p2 t L f) (bytesF g) = some true := by
        obtain ⟨s', H', Q', e, pt⟩ := pt_put h c hL hsz
        unfold tidewracktop_TidewrackParts_j4
        rw [e2, bS, cN, if_pos rfl]
        dsimp only
        have n0 : gram_Gram_Num g 0 = some 1 := by rw [hg]; rfl
        have n1 : gram_Gram_Num g 1 = some (i : Int) := by rw [hg]; rfl
        have n2 : gram_Gram_Num g 2 = some (L.length : Int) := by rw [hg]; rfl
        rw [n0, bS, n1, bS, n2, bS]
        show ((parts_Slot_Put s 1 i (L.length : Int) g.Data).bind _) = _
        rw [show g.Data = L.getD i ⟨#[]⟩ by rw [hg], e, bS, cN, if_pos rfl, hw]
        exact ih (i + 1) b s' 1 H' Q' pt (by omega) (by omega) (by omega)
      rw [cD]
      by_cases c2 : (i : Int) < (p2.length : Int)
      · have hm0 : WF.wfu32 (rdD 0 p2 (i : Int)) := by
          rw [rdD_get _ _ (by omega : i < p2.length)]; exact w2 _ (List.getElem_mem _)
        obtain ⟨m, hm⟩ : ∃ m : Nat, rdD 0 p2 (i : Int) = (m : Int) := ⟨(rdD 0 p2 (i : Int)).toNat, by have := wfu32 hm0; omega⟩
        have hm32 : m < 2 ^ 32 := by have := wfu32 hm0; omega
        have hbs : (bytesF g) = sealF (strOfNums (body g)) := rfl
        have hz : (bytesF g).size = (body g).length + 4 := by unfold bytesF; rw [seal_size, str_len]
        obtain ⟨u, f1, f2, f3⟩ := burst K (by omega) (strOfNums (body g)) (by rw [str_len]; omega) (IntKind.wrap .i64 (7 * (i : Int))) m hm32
        rw [str_len] at f2
        rw [← hbs] at f1 f3
        rw [if_pos c2, if_pos (by omega), hm, f1, bS, cSN]
        by_cases hu : u = bytesF g
        · rw [if_pos hu]; exact hj4
        · rw [if_neg hu, parse_none K (by omega) u (by omega) (f3 hu), bS, cE, if_neg (by decide), hw, hw2]
          exact ih (i + 1) (b + 1) s k H Q (pt_skip h) (by omega) (by omega) (by omega)
      · rw [if_neg c2]; exact hj4
    · have hi : i = L.length := by omega
      subst hi
      rw [if_neg (by omega)]
      exact parts_end K (by omega) t L hc hL1 hL h
theorem TidewrackParts (x0 : ByteArray) (w0 : x0.size ≤ 140737488351232) (x1 : Int) (w1 : (Lit.int .i64 x1).wf = true) (x2 : List Int) (w2 : ∀ y ∈ x2, (WF.wfu32) y) (l2 : x2.length ≤ maxLen) : ∃ K, tidewracktop_TidewrackParts K x0 x1 x2 = some true := by
  suffices h : ∀ K, 100000 ≤ K → tidewracktop_TidewrackParts K x0 x1 x2 = some true from ⟨100000, h _ (Nat.le_refl _)⟩
  intro K hK
  obtain ⟨t, ht, hs⟩ := Pure4.cut_eq x0 200
  obtain ⟨z, hz⟩ : ∃ z, z = IntKind.wrap .i64 (3 + (bits .and .i64 x1 63)) := ⟨_, rfl⟩
  obtain ⟨n1, n2, n3⟩ := pn_range z
  have hm := pm_le t (Pure4.pn z) n1
  have hmp := pm_pos t (Pure4.pn z)
  have hl := parts_len t (Pure4.pn z)
  have hc := cat_parts t (Pure4.pn z) n1
  have ho : (openF (⟨#[]⟩ : ByteArray)).2 = false := by decide
  unfold tidewracktop_TidewrackParts
  rw [parse_none K (by omega) _ (by decide) ho, bS, cE, if_neg (by decide), cN, if_pos (by rfl)]
  unfold tidewracktop_TidewrackParts_j1
  rw [show (200 : Int) = ((200 : Nat) : Int) from rfl, ht, bS, ← hz, split_eq K t (by omega) z (by omega), bS]
  refine parts_loop K hK x2 w2 t _ hc (by omega) (by omega) (fun x hx => ?_) K 0 0 ⟨0, 0, M.nil, 0⟩ 0 [] [] ⟨R.zero, .inl ⟨rfl, rfl⟩, fun h => by omega, fun j _ => by simp⟩ (by omega) (by omega) (by omega)
  obtain ⟨j, hj, rfl⟩ := List.mem_iff_getElem.1 hx
  rw [parts_get, pc_size]
  omega
end Go.Proofs.YtpciioffkjpieaaDoor.Pure
