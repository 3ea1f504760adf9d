/- Plain laws: what the plain functions answer, with no program in sight. -/
import Derived.Test.YtaojnfjidbppjaaDoorPC
set_option linter.unusedVariables false
set_option linter.unusedSimpArgs false
namespace Go.Proofs.YtaojnfjidbppjaaDoor.Pure
open Go Go.Proofs.XC Go.Proofs.YtaojnfjidbppjaaDoor

theorem Inv.zero {d : T24} (h : Inv d) (h0 : d.Need ≤ 0) : d = Z := by
  rcases h with rfl | ⟨hl, h⟩
  · rfl
  · have := lead_need _ hl
    rcases h with ⟨h1, _⟩ | ⟨h1, _⟩ | ⟨h1, _⟩ <;> omega
theorem valid64 {l : List Int} (h : ∀ x ∈ l, valid x) : Nums64 l := fun x hx => by have := h x hx; unfold valid at this; omega
theorem eqT_refl (x : T24) : eqT24 x x = true := by simp [eqT24]
theorem decZ (l : List Int) (h : Bytes l) : Inv (dec Z l).1 ∧ ∀ x ∈ (dec Z l).2, valid x := dec_inv l Z (.inl rfl) h
theorem decAll_valid (l : List Int) (h : Bytes l) : ∀ x ∈ decAll l, valid x := by
  intro x hx
  simp only [decAll, List.mem_append] at hx
  rcases hx with hx | hx
  · exact (decZ l h).2 x hx
  · unfold endF at hx
    split at hx
    · simp at hx
    · simp only [List.mem_singleton] at hx; subst hx; simp [valid]
theorem GlyphDecodes (x0 : ByteArray) (w0 : x0.size ≤ 140737488351232) : ∃ K, tidewracklaw05_GlyphDecodes K x0 = some true := by
  suffices h : ∀ K, 1000 ≤ K → tidewracklaw05_GlyphDecodes K x0 = some true from ⟨1000, h _ (Nat.le_refl _)⟩
  intro K hK
  have hsz := cut_size x0 80
  unfold tidewracklaw05_GlyphDecodes
  rw [awake_eq K (by omega), bS, show (80 : Int) = ((80 : Nat) : Int) from rfl, cut_eq, bS]
  generalize cutF x0 80 = s at *
  obtain ⟨left, e, l0, l1⟩ := runes_eq K (by omega) s (by omega)
  have hb := numsOf_bytes s
  have hv := decZ _ hb
  have hlen := dec_len (numsOf s) Z
  rw [numsOf_len] at hlen
  simp only [Bool.not_true, cond_false, run_eq K s Z (by omega) (by omega) (by omega) (.inl rfl), bS, e, List.nil_append, cD]
  rw [if_pos (by simp; omega)]
  have fin : ∀ l, l = decAll (numsOf s) → tidewracklaw05_GlyphDecodes_j1 K s (dec Z (numsOf s)) ((dec Z (numsOf s)).2, left) l = some true := by
    intro l hl
    subst hl
    have hal : (decAll (numsOf s)).length = (dec Z (numsOf s)).2.length + (endF (dec Z (numsOf s)).1).length := by simp [decAll]
    have hel : (endF (dec Z (numsOf s)).1).length ≤ 1 := by unfold endF; split <;> simp
    unfold tidewracklaw05_GlyphDecodes_j1
    simp only [same_eq K _ _ (valid64 hv.2) (by omega) (by omega), bS, decide_true, cond_true, cD, decode_eq K s (by omega) (by omega) (by omega), same_eq K _ _ (valid64 (decAll_valid _ hb)) (by omega) (by omega), end_eq]
    have hiff : (decide ((dec Z (numsOf s)).1.Need > 0) == decide (left > 0)) = true := by rw [beq_iff_eq, decide_eq_decide]; exact l1.symm
    rw [hiff, cond_true, w64 (by omega) (by omega)]
    have hlast : (((endF (dec Z (numsOf s)).1).length : Int) == ((decAll (numsOf s)).length : Int) - ((dec Z (numsOf s)).2.length : Int)) = true := by rw [beq_iff_eq]; omega
    rw [hlast]
    by_cases hp : left > 0
    · rw [if_pos hp]
    · rw [if_neg hp]
      have hz : (dec Z (numsOf s)).1 = Z := hv.1.zero (by omega)
      rw [hz, eqT_refl, cond_true]
  by_cases hp : left > 0
  · rw [if_pos hp, if_pos (by simp; omega)]
    refine fin _ ?_
    unfold decAll endF
    rw [if_neg (by omega)]
  · rw [if_neg hp]
    refine fin _ ?_
    unfold decAll endF
    rw [if_pos (by omega), List.append_nil]
/-! ### In parts -/
theorem parts_loop (K : Nat) (hK : 9 ≤ K) (t13 : ByteArray) (hs : t13.size ≤ 400) (t23 : T24 × List Int) (x190 : T24) (l193 : List Int) (t200 : T24 × List Int) : ∀ (k : Nat) (d : T24) (l : List Int) (i : Nat), t13.size < k + i → i ≤ t13.size → Inv d → l.length ≤ 2 * i →
    tidewracklaw05_GlyphParts_l3 K t13 t23 x190 l193 t200 k d l i = tidewracklaw05_GlyphParts_j2 K t13 t23 x190 l193 t200 (dec d ((numsOf t13).drop i)).1 (l ++ (dec d ((numsOf t13).drop i)).2)
  | 0, d, l, i, h, h', hd, hl => by omega
  | k + 1, d, l, i, h, h', hd, hl => by
    have ih := parts_loop K hK t13 hs t23 x190 l193 t200 k
    unfold tidewracklaw05_GlyphParts_l3
    have hN := numsOf_len t13
    by_cases hi : i < t13.size
    · have hw : IntKind.wrap .i64 ((i : Int) + 1) = ((i + 1 : Nat) : Int) := by rw [w64 (by omega) (by omega)]; omega
      have hsm := hd.small
      have hc := numsOf_bytes t13 (bt t13 i) (by rw [← numsOf_get t13 i hi]; exact List.getElem_mem _)
      rw [List.drop_eq_getElem_cons (by omega : i < (numsOf t13).length), numsOf_get t13 i hi]
      simp only [cD, hw, next_eq K hK d _ hc.1 hc.2 hsm.1 hsm.2.1 hsm.2.2.2, bS]
      have hnl := next_len d (bt t13 i)
      rw [if_pos (by omega), if_pos (by omega), if_pos (by omega), ih _ _ (i + 1) (by omega) (by omega) (next_inv d _ hd hc.1 hc.2).1 (by simp; omega)]
      simp only [dec, List.append_assoc]
    · simp only [cD]
      rw [if_neg (by omega), List.drop_eq_nil_of_le (by omega)]
      simp [dec]
theorem GlyphParts (x0 : ByteArray) (w0 : x0.size ≤ 140737488351232) (x1 : Int) (w1 : (Lit.int .i64 x1).wf = true) : ∃ K, tidewracklaw05_GlyphParts K x0 x1 = some true := by
  suffices h : ∀ K, 1000 ≤ K → tidewracklaw05_GlyphParts K x0 x1 = some true from ⟨1000, h _ (Nat.le_refl _)⟩
  intro K hK
  have hsz := cut_size x0 80
  unfold tidewracklaw05_GlyphParts
  rw [awake_eq K (by omega), bS, show (80 : Int) = ((80 : Nat) : Int) from rfl, cut_eq, bS]
  generalize cutF x0 80 = s at *
  obtain ⟨at_, hat, hat1⟩ : ∃ n : Nat, (if (if ((s).size : Int) < x1 then ((s).size : Int) else x1) > 0 then (if ((s).size : Int) < x1 then ((s).size : Int) else x1) else 0) = (n : Int) ∧ n ≤ s.size := by
    refine ⟨(if (if ((s).size : Int) < x1 then ((s).size : Int) else x1) > 0 then (if ((s).size : Int) < x1 then ((s).size : Int) else x1) else 0).toNat, ?_, ?_⟩
    · split <;> (try split) <;> omega
    · split <;> (try split) <;> omega
  rw [hat]
  obtain ⟨left, e, l0, l1⟩ := runes_eq K (by omega) s (by omega)
  have hb := numsOf_bytes s
  have hv := decZ _ hb
  have hlen := dec_len (numsOf s) Z
  have hN := numsOf_len s
  have h1 : (s.extract 0 at_).size ≤ 80 := by simp [ByteArray.size_extract]; omega
  have h2 : (s.extract at_ s.size).size ≤ 80 := by simp [ByteArray.size_extract]; omega
  have d1 := decZ _ (numsOf_bytes (s.extract 0 at_))
  have hsplit : numsOf s = numsOf (s.extract 0 at_) ++ numsOf (s.extract at_ s.size) := by
    rw [nums_extract, nums_extract, ← hN, List.take_length, List.drop_zero, List.take_append_drop]
  have hda := dec_append (numsOf (s.extract 0 at_)) Z (numsOf (s.extract at_ s.size))
  rw [← hsplit] at hda
  simp only [Bool.not_true, cond_false, Int.toNat_natCast]
  rw [if_pos (by omega), if_pos (by omega), run_eq K _ Z (by omega) (by omega) (by omega) (.inl rfl), bS, run_eq K _ _ (by omega) (by omega) (by omega) d1.1, bS]
  unfold tidewracklaw05_GlyphParts_j1
  rw [run_eq K s Z (by omega) (by omega) (by omega) (.inl rfl), bS]
  have := parts_loop K (by omega) s (by omega) (dec Z (numsOf (s.extract 0 at_))) (dec (dec Z (numsOf (s.extract 0 at_))).1 (numsOf (s.extract at_ s.size))).1 (dec (dec Z (numsOf (s.extract 0 at_))).1 (numsOf (s.extract at_ s.size))).2 (dec Z (numsOf s)) K Z [] 0 (by omega) (by omega) (.inl rfl) (by simp)
  rw [show ((0 : Nat) : Int) = 0 from rfl] at this
  rw [this, List.drop_zero, List.nil_append]
  unfold tidewracklaw05_GlyphParts_j2
  have e1 : (dec (dec Z (numsOf (s.extract 0 at_))).1 (numsOf (s.extract at_ s.size))).1 = (dec Z (numsOf s)).1 := by rw [hda]
  have e2 : (dec Z (numsOf (s.extract 0 at_))).2 ++ (dec (dec Z (numsOf (s.extract 0 at_))).1 (numsOf (s.extract at_ s.size))).2 = (dec Z (numsOf s)).2 := by rw [hda]
  have e3 : (dec Z (numsOf (s.extract 0 at_))).2.length + (dec (dec Z (numsOf (s.extract 0 at_))).1 (numsOf (s.extract at_ s.size))).2.length = (dec Z (numsOf s)).2.length := by rw [← e2, List.length_append]
  rw [e, bS, e1, eqT_refl, cond_true, cond_true, if_pos (by omega), e2, same_eq K _ _ (valid64 hv.2) (by omega) (by omega)]
  simp only [bS, decide_true, cond_true]
/-! ### Valid runes, and how many -/
def pend (d : T24) : Nat := if d.Need > 0 then 1 else 0
theorem next_pend (d : T24) (c : Int) (hd : Inv d) (h0 : 0 ≤ c) (h1 : c < 256) : (nextF d c).2.length + pend (nextF d c).1 ≤ 1 + pend d ∧ 1 ≤ (nextF d c).2.length + pend (nextF d c).1 := by
  have hb := begin_inv c h0 h1
  have hbe : (beginF c).2.length + pend (beginF c).1 = 1 := by
    unfold pend
    rcases hb.2.2.2 with h | h
    · rw [if_pos h, hb.2.2.1 h]; rfl
    · by_cases h2 : (beginF c).1.Need > 0
      · rw [hb.2.2.1 h2] at h; simp at h
      · rw [if_neg h2, h]
  unfold nextF
  split
  · omega
  · rename_i hn
    have hp : pend d = 1 := by unfold pend; rw [if_pos (by omega)]
    split
    · split
      · simp [pend]
      · rename_i h2
        simp only [pend, List.length_nil]
        rw [if_pos (by omega)]; omega
    · simp only [List.length_cons]; omega
theorem dec_pend : ∀ (l : List Int) (d : T24), Inv d → Bytes l → (dec d l).2.length + pend (dec d l).1 ≤ l.length + pend d ∧ (l ≠ [] → 1 ≤ (dec d l).2.length + pend (dec d l).1)
  | [], d, _, _ => by simp [dec]
  | c :: l, d, hd, hb => by
    have hc := hb c (by simp)
    have hn := next_pend d c hd hc.1 hc.2
    have hi := next_inv d c hd hc.1 hc.2
    have ih := dec_pend l _ hi.1 (fun x hx => hb x (by simp [hx]))
    simp only [dec, List.length_append, List.length_cons]
    refine ⟨by omega, fun _ => ?_⟩
    cases l with
    | nil => simp [dec]; omega
    | cons y l => have := ih.2 (by simp); omega
theorem decAll_len (l : List Int) (hb : Bytes l) : (decAll l).length ≤ l.length ∧ (l ≠ [] → 1 ≤ (decAll l).length) := by
  have := dec_pend l Z (.inl rfl) hb
  have hz : pend Z = 0 := rfl
  have he : (endF (dec Z l).1).length = pend (dec Z l).1 := by
    unfold endF pend; split <;> split <;> first | rfl | omega
  simp only [decAll, List.length_append]
  exact ⟨by omega, fun h => by have := this.2 h; omega⟩
theorem valid_loop (t13 : ByteArray) (l : List Int) (hv : ∀ x ∈ l, valid x) (hl : l.length ≤ 1000) : ∀ (k i : Nat), l.length < k + i → i ≤ l.length → tidewracklaw05_GlyphValid_l2 t13 l k i = tidewracklaw05_GlyphValid_j1 t13 l
  | 0, i, h, h' => by omega
  | k + 1, i, h, h' => by
    have ih := valid_loop t13 l hv hl k
    unfold tidewracklaw05_GlyphValid_l2
    by_cases hi : i < l.length
    · have hw : IntKind.wrap .i64 ((i : Int) + 1) = ((i + 1 : Nat) : Int) := by rw [w64 (by omega) (by omega)]; omega
      have hx := hv _ (List.getElem_mem hi)
      unfold valid at hx
      simp only [cD, hw, rdD_get 0 l hi]
      rw [if_pos (by omega), if_pos (by omega), if_neg (by omega), if_neg (by omega)]
      have := ih (i + 1) (by omega) (by omega)
      by_cases c1 : l[i] ≥ 55296
      · rw [if_pos c1, if_neg (by omega), this]
      · rw [if_neg c1, this]
    · simp only [cD]
      rw [if_neg (by omega)]
theorem GlyphValid (x0 : ByteArray) (w0 : x0.size ≤ 140737488351232) : ∃ K, tidewracklaw05_GlyphValid K x0 = some true := by
  suffices h : ∀ K, 1000 ≤ K → tidewracklaw05_GlyphValid K x0 = some true from ⟨1000, h _ (Nat.le_refl _)⟩
  intro K hK
  have hsz := cut_size x0 80
  unfold tidewracklaw05_GlyphValid
  rw [awake_eq K (by omega), bS, show (80 : Int) = ((80 : Nat) : Int) from rfl, cut_eq, bS]
  generalize cutF x0 80 = s at *
  have hb := numsOf_bytes s
  have hN := numsOf_len s
  have hl := decAll_len _ hb
  simp only [Bool.not_true, cond_false, decode_eq K s (by omega) (by omega) (by omega), bS]
  have := valid_loop s (decAll (numsOf s)) (decAll_valid _ hb) (by omega) K 0 (by omega) (by omega)
  rw [show ((0 : Nat) : Int) = 0 from rfl] at this
  rw [this]
  unfold tidewracklaw05_GlyphValid_j1
  rw [cD, if_pos (by omega), cS]
  by_cases h0 : s = (⟨#[]⟩ : ByteArray)
  · rw [if_pos h0]
  · rw [if_neg h0]
    have hne : numsOf s ≠ [] := by
      intro h
      apply h0
      apply str_ext
      have : s.data.toList.map (fun b => (b.toNat : Int)) = [] := h
      rw [List.map_eq_nil_iff] at this
      rw [this]
    have := hl.2 hne
    simp; omega
end Go.Proofs.YtaojnfjidbppjaaDoor.Pure
