/- Plain laws: what the plain functions answer, with no program in sight. -/
import Derived.Test.YthmlldkmgdjeoaaPA
set_option linter.unusedVariables false
set_option linter.unusedSimpArgs false
namespace Go.Proofs.Ythmlldkmgdjeoaa.Pure
open Go Go.Proofs.XC Go.Proofs.Ythmlldkmgdjeoaa

/-! ### Lines as the document's -/
def tellG (g : T59) : T75 := ⟨IntKind.wrap .i64 g.Rune, g.Style⟩
theorem told_loop (p : List T59) (hp : p.length ≤ 100000) : ∀ (k i : Nat) (l : List T75), p.length < k + i → i ≤ p.length → l.length ≤ i → tidewracklaw14_Told_l2 p k l (i : Int) = some (l ++ (p.drop i).map tellG)
  | 0, i, l, h1, h2, h3 => by omega
  | k + 1, i, l, h1, h2, h3 => by
    have ih := told_loop p hp k
    unfold tidewracklaw14_Told_l2
    rw [cD]
    by_cases a : i < p.length
    · have hw : IntKind.wrap .i64 ((i : Int) + 1) = ((i + 1 : Nat) : Int) := by rw [w64 (by omega) (by omega)]; omega
      rw [if_pos (by omega), if_pos (by omega), if_pos (by simp; omega), rdD_get _ _ a, hw, ih (i + 1) _ (by omega) (by omega) (by simp; omega), List.drop_eq_getElem_cons a, List.map_cons]
      simp [tellG]
    · rw [if_neg (by omega), List.drop_eq_nil_of_le (by omega)]
      unfold tidewracklaw14_Told_j1
      simp
theorem told_eq (K : Nat) (p : List T59) (hp : p.length ≤ 100000) (hK : p.length < K) : tidewracklaw14_Told K p = some (p.map tellG) := by
  unfold tidewracklaw14_Told
  have := told_loop p hp K 0 [] (by omega) (by omega) (by simp)
  rw [show ((0 : Nat) : Int) = 0 from rfl] at this
  rw [this]; simp
theorem glyphs_loop (p : List T59) (hp : p.length ≤ 100000) : ∀ (k i : Nat), p.length < k + i → i ≤ p.length → tidewracklaw09_Glyphs_l2 p (p.map tellG) k (i : Int) = some true
  | 0, i, h1, h2 => by omega
  | k + 1, i, h1, h2 => by
    have ih := glyphs_loop p hp k
    unfold tidewracklaw09_Glyphs_l2
    rw [cD]
    by_cases a : i < p.length
    · have hw : IntKind.wrap .i64 ((i : Int) + 1) = ((i + 1 : Nat) : Int) := by rw [w64 (by omega) (by omega)]; omega
      have e2 : rdD zT75 (p.map tellG) (i : Int) = tellG p[i] := by rw [rdD_get _ _ (by rw [List.length_map]; exact a), List.getElem_map]
      rw [if_pos (by omega), if_pos (by omega), if_pos (by rw [List.length_map]; omega), rdD_get _ _ a, e2, cN, if_pos (show IntKind.wrap .i64 p[i].Rune = (tellG p[i]).Rune from rfl), cN, if_pos (show p[i].Style = (tellG p[i]).Style from rfl), hw]
      exact ih (i + 1) (by omega) (by omega)
    · rw [if_neg (by omega)]; rfl
theorem glyphs_eq (K : Nat) (p : List T59) (hp : p.length ≤ 100000) (hK : p.length < K) : tidewracklaw09_Glyphs K p (p.map tellG) = some true := by
  unfold tidewracklaw09_Glyphs
  have := glyphs_loop p hp K 0 (by omega) (by omega)
  rw [show ((0 : Nat) : Int) = 0 from rfl] at this
  rw [cN, if_pos (by rw [List.length_map]), this]
/-! ### What is awake -/
theorem awake_eq (K : Nat) (hK : 2000 ≤ K) : tidewracklaw14_awake K = some true := by
  obtain ⟨c0, e0, m0, n0, h0⟩ := new_inv 2
  have hm : mxI 1 (mnI 2 65536) = 2 := by decide
  rw [hm] at m0
  unfold tidewracklaw14_awake
  rw [e0, bS]
  obtain ⟨c1, e1, m1, n1, h1⟩ := put_eq h0 K hK 1 (by omega) [⟨97, 0⟩] (by simp) (by omega) (by simp)
  rw [m0, n0] at e1 h1
  have p1 : putR 2 (putE [] 1 [(⟨97, 0⟩ : T59)] (0 + 1)) = (0, false, [(1, ⟨[⟨97, 0⟩], 1⟩)]) := rfl
  rw [p1] at e1 h1
  rw [e1, bS]
  obtain ⟨c2, e2, m2, n2, h2⟩ := put_eq h1 K hK 2 (by omega) [] (by simp) (by omega) (by simp)
  rw [m1, m0, n1, n0] at e2 h2
  have p2 : putR 2 (putE [((1 : Int), (⟨[⟨97, 0⟩], 1⟩ : T71))] 2 [] (0 + 1 + 1)) = (0, false, [(1, ⟨[⟨97, 0⟩], 1⟩), (2, ⟨[], 2⟩)]) := rfl
  rw [p2] at e2 h2
  rw [e2, bS]
  obtain ⟨c3, e3, m3, n3, h3⟩ := get_eq h2 (fun e he => by
    rcases List.mem_cons.1 he with rfl | he
    · simp
    · rw [List.mem_singleton.1 he]; simp) 1 (by omega) (by omega) (by simp)
  have f3 : mfind [((1 : Int), (⟨[⟨97, 0⟩], 1⟩ : T71)), (2, ⟨[], 2⟩)] 1 = some ⟨[⟨97, 0⟩], 1⟩ := rfl
  rw [f3] at e3 h3
  rw [e3, bS]
  dsimp only at h3
  obtain ⟨c4, e4, m4, n4, h4⟩ := put_eq h3 K hK 3 (by omega) [] (by simp) (by omega) (by have := putE_len [((1 : Int), (⟨[⟨97, 0⟩], 1⟩ : T71)), (2, ⟨[], 2⟩)] 1 [⟨97, 0⟩] (c2.now + 1); simp at this; omega)
  rw [m3, m2, m1, m0] at e4 h4
  have p4 : ∀ n : Int, putR 2 (putE (putE [((1 : Int), (⟨[⟨97, 0⟩], 1⟩ : T71)), (2, ⟨[], 2⟩)] 1 [⟨97, 0⟩] (c2.now + 1)) 3 [] n) = (2, true, [(1, ⟨[⟨97, 0⟩], c2.now + 1⟩), (3, ⟨[], n⟩)]) := fun n => rfl
  rw [p4] at e4 h4
  rw [e4, bS]
  unfold cache_Cache_Len
  rw [h4.length]
  rfl
/-! ### The latest first -/
def dd : List Int → List Int
  | [] => []
  | k :: r => k :: (dd r).filter fun x => decide (x ≠ k)
theorem dd_nodup : ∀ l, (dd l).Nodup
  | [] => List.nodup_nil
  | k :: r => List.nodup_cons.2 ⟨fun h => by simp [List.mem_filter] at h, (dd_nodup r).sublist List.filter_sublist⟩
theorem dd_mem {x : Int} : ∀ {l : List Int}, x ∈ dd l ↔ x ∈ l
  | [] => by simp [dd]
  | k :: r => by
    rw [dd, List.mem_cons, List.mem_filter, dd_mem, List.mem_cons]
    constructor
    · rintro (h | h)
      · exact .inl h
      · exact .inr h.1
    · rintro (h | h)
      · exact .inl h
      · by_cases e : x = k
        · exact .inl e
        · exact .inr ⟨h, by simpa using e⟩
theorem take_filter (k : Int) : ∀ (R : List Int) (m : Nat), R.Nodup → ((R.take (m + 1)).filter fun x => decide (x ≠ k)).take m = (R.filter fun x => decide (x ≠ k)).take m
  | [], m, _ => by simp
  | a :: R, m, h => by
    have hn := List.nodup_cons.1 h
    rw [List.take_succ_cons]
    by_cases e : a = k
    · rw [List.filter_cons_of_neg (by simp [e]), List.filter_cons_of_neg (by simp [e])]
      have hid : ∀ l : List Int, (∀ x ∈ l, x ∈ R) → (l.filter fun x => decide (x ≠ k)) = l := fun l hl => List.filter_eq_self.2 fun x hx => by
        have := hl x hx
        simp only [decide_eq_true_eq]
        rintro rfl
        exact hn.1 (e ▸ this)
      rw [hid _ (fun x hx => List.mem_of_mem_take hx), hid _ (fun x hx => hx), List.take_take, Nat.min_self]
    · rw [List.filter_cons_of_pos (by simp [e]), List.filter_cons_of_pos (by simp [e])]
      cases m with
      | zero => rfl
      | succ m => rw [List.take_succ_cons, List.take_succ_cons, take_filter k R m hn.2]
/-- S has come; rest is still to come: all of them, in order. -/
theorem dd_step (S : List Int) (k : Int) (r : List Int) : (dd (k :: r)).filter (fun x => decide (x ∉ S)) = if k ∈ S then (dd r).filter (fun x => decide (x ∉ S)) else k :: (dd r).filter (fun x => decide (x ∉ S ++ [k])) := by
  rw [dd]
  by_cases h : k ∈ S
  · rw [if_pos h, List.filter_cons_of_neg (by simp [h]), List.filter_filter]
    refine List.filter_congr fun x _ => ?_
    by_cases e : x = k
    · subst e; simp [h]
    · simp [e]
  · rw [if_neg h, List.filter_cons_of_pos (by simp [h]), List.filter_filter]
    congr 1
    refine List.filter_congr fun x _ => ?_
    by_cases e : x = k
    · subst e; simp
    · by_cases e2 : x ∈ S <;> simp [e, e2]
end Go.Proofs.Ythmlldkmgdjeoaa.Pure
