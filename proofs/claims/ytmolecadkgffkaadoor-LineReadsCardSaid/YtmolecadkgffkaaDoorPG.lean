/- Plain laws: what the plain functions answer, with no program in sight. -/
import Derived.Test.YtmolecadkgffkaaDoorPE
import Derived.Lib.IndexBytes
import Derived.Lib.CountLaws
set_option linter.unusedVariables false
set_option linter.unusedSimpArgs false
namespace Go.Proofs.YtmolecadkgffkaaDoor.Pure
open Go Go.Proofs.XC Go.Proofs.YtmolecadkgffkaaDoor

/-! ### Where a byte is -/
def idxI (c : Int) : List Int → Int
  | [] => -1
  | b :: l => if b = c then 0 else if idxI c l = -1 then -1 else idxI c l + 1
theorem idx_eq (c : UInt8) : ∀ l : List UInt8, Lib.indexByte l c = idxI (c.toNat : Int) (l.map fun b => (b.toNat : Int))
  | [] => rfl
  | b :: l => by
    have ih := idx_eq c l
    unfold Lib.indexByte
    rw [List.map_cons]
    unfold idxI
    rw [ih]
    by_cases h : b = c
    · subst h
      rw [if_pos (by simp), if_pos rfl]
    · have h2 : ¬ ((b.toNat : Int) = (c.toNat : Int)) := fun e => h (UInt8.toNat_inj.1 (by exact_mod_cast e))
      rw [if_neg (by simpa using h), if_neg h2]
      by_cases h3 : idxI (c.toNat : Int) (l.map fun b => (b.toNat : Int)) = -1
      · rw [if_pos (by simpa using h3), if_pos h3]
      · rw [if_neg (by simpa using h3), if_neg h3]
theorem idxI_hit (c : Int) : ∀ (a r : List Int), c ∉ a → idxI c (a ++ c :: r) = a.length
  | [], r, h => by simp [idxI]
  | b :: a, r, h => by
    have ih := idxI_hit c a r fun hh => h (by simp [hh])
    have hb : ¬ b = c := fun e => h (by simp [e])
    show (if b = c then 0 else if idxI c (a ++ c :: r) = -1 then -1 else idxI c (a ++ c :: r) + 1) = _
    rw [if_neg hb, ih, if_neg (by omega)]
    simp
theorem idxI_miss (c : Int) : ∀ a : List Int, c ∉ a → idxI c a = -1
  | [], h => rfl
  | b :: a, h => by
    have ih := idxI_miss c a fun hh => h (by simp [hh])
    have hb : ¬ b = c := fun e => h (by simp [e])
    unfold idxI
    rw [if_neg hb, ih, if_pos rfl]
theorem idxI_range (c : Int) : ∀ l : List Int, -1 ≤ idxI c l ∧ idxI c l < l.length
  | [] => by simp [idxI]
  | b :: l => by
    have ih := idxI_range c l
    unfold idxI
    rw [List.length_cons]
    split
    · omega
    · split <;> omega
theorem index_nums (s : ByteArray) (c : UInt8) : Lib.index s.data.toList [c] = idxI (c.toNat : Int) (numsOf s) := by
  rw [Lib.index_one, idx_eq]; rfl
/-! ### Cut -/
theorem cut_eq (s : ByteArray) (hs : s.size < 4294967281) : ∃ a b, strings_Cut s ⟨#[40]⟩ = some (a, b, decide (0 ≤ idxI 40 (numsOf s))) ∧ a.size ≤ s.size ∧ b.size ≤ s.size ∧
    (0 ≤ idxI 40 (numsOf s) → numsOf a = (numsOf s).take (idxI 40 (numsOf s)).toNat ∧ numsOf b = (numsOf s).drop ((idxI 40 (numsOf s)).toNat + 1)) := by
  have hi := index_nums s 40
  have e40 : ((40 : UInt8).toNat : Int) = 40 := rfl
  rw [e40] at hi
  have hn := numsOf_len s
  have hl : s.data.toList.length = s.size := Array.length_toList
  unfold strings_Cut Lib.cut
  rw [if_pos hs]
  show ∃ a b, some ((⟨(if 0 ≤ Lib.index s.data.toList [40] then _ else _ : List UInt8 × List UInt8 × Bool).1.toArray⟩ : ByteArray), _, _) = _ ∧ _
  rw [hi]
  by_cases h : 0 ≤ idxI 40 (numsOf s)
  · refine ⟨⟨(s.data.toList.take (idxI 40 (numsOf s)).toNat).toArray⟩, ⟨(s.data.toList.drop ((idxI 40 (numsOf s)).toNat + 1)).toArray⟩, ?_, ?_, ?_, fun _ => ⟨?_, ?_⟩⟩
    · rw [if_pos h, decide_eq_true h]; rfl
    · show (List.toArray _).size ≤ _; rw [List.size_toArray, List.length_take]; omega
    · show (List.toArray _).size ≤ _; rw [List.size_toArray, List.length_drop]; omega
    · rw [nums_mk, List.map_take]; rfl
    · rw [nums_mk, List.map_drop]; rfl
  · refine ⟨s, ⟨#[]⟩, ?_, Nat.le_refl _, Nat.zero_le _, fun hh => absurd hh h⟩
    rw [if_neg h, decide_eq_false h]
/-! ### CutSuffix -/
theorem suffix_eq (s : ByteArray) (hs : s.size < 4294967281) : ∃ a ok, strings_CutSuffix s ⟨#[41]⟩ = some (a, ok) ∧ a.size ≤ s.size ∧ (∀ l, numsOf s = l ++ [41] → ok = true ∧ numsOf a = l) := by
  have s41 : (⟨#[41]⟩ : ByteArray).size = 1 := rfl
  have hn := numsOf_len s
  unfold strings_CutSuffix stringslite_CutSuffix stringslite_HasSuffix
  rw [s41, cD]
  by_cases h : (s.size : Int) ≥ ((1 : Nat) : Int)
  · have hw : IntKind.wrap .i64 ((s.size : Int) - ((1 : Nat) : Int)) = ((s.size - 1 : Nat) : Int) := by rw [w64 (by omega) (by omega)]; omega
    rw [if_pos h, hw, if_pos (by omega), if_pos (by omega), Int.toNat_natCast, str_eq, bS, cNB]
    by_cases g : s.extract (s.size - 1) s.size = ⟨#[41]⟩
    · rw [if_pos (decide_eq_true g), if_pos (by omega), if_pos (by omega), bS]
      refine ⟨_, _, rfl, by rw [ext_size]; omega, fun l hl => ⟨rfl, ?_⟩⟩
      show numsOf (s.extract 0 (s.size - 1)) = l
      rw [nums_ext, List.drop_zero, hl]
      have : s.size - 1 = l.length := by rw [← hn, hl]; simp
      rw [this, List.take_left']
      rfl
    · rw [if_neg (by simpa using g), bS]
      refine ⟨_, _, rfl, Nat.le_refl _, fun l hl => absurd ?_ g⟩
      apply nums_inj
      have : s.size - 1 = l.length := by rw [← hn, hl]; simp
      rw [nums_ext, List.take_of_length_le (by omega), hl, this, List.drop_left']
      · rfl
      · rfl
  · rw [if_neg h, bS]
    refine ⟨s, false, rfl, Nat.le_refl _, fun l hl => ?_⟩
    rw [hl] at hn
    simp at hn
    omega
/-! ### Split -/
theorem split_join : ∀ (r : List ByteArray) (x s : ByteArray), (∀ y ∈ x :: r, (44 : Int) ∉ numsOf y) → numsOf s = joinL ((x :: r).map numsOf) → Lib.splitB ⟨#[44]⟩ 0 r.length s = x :: r
  | [], x, s, h, hs => by
    rw [List.length_nil, Lib.splitB_zero]
    have : s = x := nums_inj (by rw [hs]; simp [joinL, tailL])
    rw [this]
  | y :: r, x, s, h, hs => by
    have hn := numsOf_len s
    have hx := h x (by simp)
    have hs' : numsOf s = numsOf x ++ 44 :: joinL ((y :: r).map numsOf) := by
      rw [hs]
      show numsOf x ++ tailL (numsOf y :: r.map numsOf) = numsOf x ++ 44 :: (numsOf y ++ tailL (r.map numsOf))
      unfold tailL
      rw [List.flatMap_cons]; rfl
    have hi : Lib.indexB s ⟨#[44]⟩ = ((numsOf x).length : Nat) := by
      have := index_nums s 44
      have e : ((44 : UInt8).toNat : Int) = 44 := rfl
      rw [e, hs', idxI_hit 44 _ _ hx] at this
      exact this
    rw [List.length_cons, Lib.splitB_hit _ _ _ _ _ hi]
    have s44 : (⟨#[44]⟩ : ByteArray).size = 1 := rfl
    congr 1
    · apply nums_inj
      rw [nums_ext, List.drop_zero, hs', Nat.add_zero, List.take_left']
      rfl
    · refine split_join r y _ (fun z hz => h z (List.mem_cons_of_mem _ hz)) ?_
      rw [nums_ext, List.take_of_length_le (by omega), hs', s44, List.drop_append]
      simp
theorem count_join (r : List ByteArray) (x s : ByteArray) (h : ∀ y ∈ x :: r, (44 : Int) ∉ numsOf y) (hs : numsOf s = joinL ((x :: r).map numsOf)) : Lib.countB s ⟨#[44]⟩ = r.length := by
  have h44 : ∀ y : ByteArray, (44 : Int) ∉ numsOf y → (numsOf y).count 44 = 0 := fun y hy => List.count_eq_zero.2 hy
  have e : Lib.countB s ⟨#[44]⟩ = (numsOf s).count 44 := by
    show Lib.count s.data.toList [44] = _
    rw [Lib.count_one]
    unfold numsOf
    generalize s.data.toList = l
    induction l with
    | nil => rfl
    | cons b l ih =>
      rw [List.map_cons, List.count_cons, List.count_cons, ih]
      congr 1
      by_cases hb : b = 44
      · subst hb; rfl
      · have h2 : ¬ ((b.toNat : Int) = 44) := fun e => hb (UInt8.toNat_inj.1 (by have : (44 : UInt8).toNat = 44 := rfl; omega))
        simp [hb, h2]
  rw [e, hs]
  show ((numsOf x) ++ tailL (r.map numsOf)).count 44 = _
  rw [List.count_append, h44 x (h x (by simp)), Nat.zero_add]
  have : ∀ r : List ByteArray, (∀ y ∈ r, (44 : Int) ∉ numsOf y) → (tailL (r.map numsOf)).count 44 = r.length := by
    intro r
    induction r with
    | nil => intro _; rfl
    | cons y r ih =>
      intro hr
      have := ih fun z hz => hr z (by simp [hz])
      unfold tailL at this ⊢
      rw [List.map_cons, List.flatMap_cons, List.count_append, this, List.count_cons, h44 y (hr y (by simp))]
      simp
      omega
  exact this r fun y hy => h y (by simp [hy])
end Go.Proofs.YtmolecadkgffkaaDoor.Pure
