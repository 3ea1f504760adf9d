/- Walks, printed by an own program: the machine's calls compute the plain functions. -/
import Derived.Test.YtpciioffkjpieaaDoorWPA
set_option linter.unusedVariables false
set_option linter.unusedSimpArgs false
namespace Go.Proofs.YtpciioffkjpieaaDoor.PureF
open Go Go.Proofs.XC Go.Proofs.YtpciioffkjpieaaDoor

def ru (l : List T36) : List Int := l.map fun g => g.Rune
def IR (l : List T36) : Prop := I32 (ru l)
theorem ru_len (l : List T36) : (ru l).length = l.length := by simp [ru]
theorem ru_app (a b : List T36) : ru (a ++ b) = ru a ++ ru b := by simp [ru]
theorem ru_take (n : Nat) (l : List T36) : ru (l.take n) = (ru l).take n := by simp [ru, List.map_take]
theorem IR.sub {l m : List T36} (h : IR l) (hs : ∀ x ∈ m, x ∈ l) : IR m := fun r hr => by
  simp only [ru, List.mem_map] at hr
  obtain ⟨g, hg, rfl⟩ := hr
  exact h _ (by simp only [ru, List.mem_map]; exact ⟨g, hs g hg, rfl⟩)
theorem IR.one {l : List T36} (h : IR l) {g : T36} (hg : g ∈ l) : -2147483648 ≤ g.Rune ∧ g.Rune ≤ 2147483647 := h _ (by simp only [ru, List.mem_map]; exact ⟨g, hg, rfl⟩)
theorem runes_loop (p : List T36) (hp : p.length ≤ 100000) : ∀ (k : Nat) (l : List Int) (i : Nat), p.length < k + i → i ≤ p.length → l.length ≤ i → flow_runes_l2 p k l i = some (l ++ ru (p.drop i))
  | 0, l, i, h1, h2, h3 => by omega
  | k + 1, l, i, h1, h2, h3 => by
    have ih := runes_loop p hp k
    unfold flow_runes_l2
    rw [cD]
    by_cases hi : i < p.length
    · have hw : IntKind.wrap .i64 ((i : Int) + 1) = ((i + 1 : Nat) : Int) := by rw [w64 (by omega) (by omega)]; omega
      rw [if_pos (by omega), if_pos (by omega), if_pos (by simp only [List.length_cons, List.length_nil]; omega), hw, ih _ (i + 1) (by omega) (by omega) (by simp only [List.length_append, List.length_cons, List.length_nil]; omega), List.drop_eq_getElem_cons hi, rdD_get _ _ hi, List.append_assoc]
      rfl
    · rw [if_neg (by omega), List.drop_eq_nil_of_le (by omega)]
      unfold flow_runes_j1
      simp [ru]
theorem runes_eq (K : Nat) (p : List T36) (hp : p.length ≤ 100000) (hK : p.length < K) : flow_runes K p = some (ru p) := by
  have := runes_loop p hp K [] 0 (by omega) (by omega) (by simp)
  rw [show ((0 : Nat) : Int) = 0 from rfl, List.nil_append, List.drop_zero] at this
  exact this
/-! ### The rows of a line -/
def cutN (w : Int) (l : List T36) : Nat := max 1 (fitN w (ru l) 0)
def chop (w : Int) : Nat → List T36 → List (List T36)
  | 0, l => [l]
  | k + 1, l => if cutN w l < l.length then l.take (cutN w l) :: chop w k (l.drop (cutN w l)) else [l]
theorem rows_loop (K : Nat) (hK : 2000 ≤ K) (w : Int) : ∀ (k : Nat) (l : List T36) (m : Nat), l.length < k → l.length ≤ m → l.length ≤ 1000 → IR l → flow_rows_1_l1 K w k l = some (chop w m l)
  | 0, l, m, h1, h2, h3, h4 => by omega
  | k + 1, l, m, h1, h2, h3, h4 => by
    have ih := rows_loop K hK w k
    unfold flow_rows_1_l1
    have hm : mxI 1 ((fitN w (ru l) 0 : Nat) : Int) = ((cutN w l : Nat) : Int) := by unfold mxI cutN; split <;> omega
    rw [runes_eq K l (by omega) (by omega), bS, fit_eq K hK w (ru l) (by rw [ru_len]; omega) h4, bS, hm, cD]
    have hc : 1 ≤ cutN w l := by unfold cutN; omega
    by_cases c : cutN w l < l.length
    · obtain ⟨m, rfl⟩ : ∃ j, m = j + 1 := ⟨m - 1, by omega⟩
      rw [if_neg (by omega), if_pos (by omega), if_pos (by omega), Int.toNat_natCast, List.take_length, ih (l.drop (cutN w l)) m (by rw [List.length_drop]; omega) (by rw [List.length_drop]; omega) (by rw [List.length_drop]; omega) (h4.sub fun x hx => List.mem_of_mem_drop hx), List.drop_zero]
      rw [chop, if_pos c]; rfl
    · rw [if_pos (by omega)]
      cases m with
      | zero => rfl
      | succ m => rw [chop, if_neg c]; rfl
theorem rows_eq (K : Nat) (hK : 2000 ≤ K) (w : Int) (l : List T36) (h3 : l.length ≤ 1000) (h4 : IR l) : flow_rows_1 K w l = some (chop w l.length l) := rows_loop K hK w K l l.length (by omega) (Nat.le_refl _) h3 h4
def Good (w : Int) : List (List T36) → Prop
  | [] => False
  | r :: t => sumW (ru r) ≤ w ∧ (t = [] ∨ (r ≠ [] ∧ (∃ g q u, t = (g :: q) :: u ∧ sumW (ru r) + W g.Rune > w) ∧ Good w t))
theorem fit_pos (w : Int) (hw : 2 ≤ w) {l : List T36} (h : l ≠ []) : 1 ≤ fitN w (ru l) 0 := by
  cases l with
  | nil => exact absurd rfl h
  | cons g l =>
    have := W_range g.Rune
    show 1 ≤ fitN w (g.Rune :: ru l) 0
    unfold fitN
    rw [if_neg (by omega)]; omega
theorem chop_good (w : Int) (hw : 2 ≤ w) : ∀ (m : Nat) (l : List T36), l.length ≤ m → Good w (chop w m l) ∧ (chop w m l).flatten = l ∧ ∃ a t, chop w m l = a :: t ∧ (∀ g q, l = g :: q → ∃ q', a = g :: q')
  | 0, l, h => by
    obtain rfl : l = [] := List.eq_nil_of_length_eq_zero (by omega)
    refine ⟨⟨by simp [ru, sumW]; omega, .inl rfl⟩, rfl, [], [], rfl, fun g q h => by simp at h⟩
  | m + 1, l, h => by
    have ih := chop_good w hw m
    unfold chop
    by_cases hl : l = []
    · subst hl
      rw [if_neg (by simp)]
      exact ⟨⟨by simp [ru, sumW]; omega, .inl rfl⟩, rfl, [], [], rfl, fun g q h => by simp at h⟩
    · have hf := fit_pos w hw hl
      have hc : cutN w l = fitN w (ru l) 0 := by unfold cutN; omega
      obtain ⟨s1, s2, s3⟩ := fit_spec w (ru l) 0 (by omega)
      rw [ru_len] at s1 s3
      rw [hc]
      by_cases c : fitN w (ru l) 0 < l.length
      · rw [if_pos c]
        obtain ⟨g1, g2, a, t, g3, g4⟩ := ih (l.drop (fitN w (ru l) 0)) (by rw [List.length_drop]; omega)
        have hd := List.drop_eq_getElem_cons c
        obtain ⟨q', hq⟩ := g4 _ _ hd
        have h3 := s3 c
        rw [List.take_succ_eq_append_getElem (by rw [ru_len]; exact c), sumW_app] at h3
        simp only [sumW] at h3
        have he : (ru l)[fitN w (ru l) 0]'(by rw [ru_len]; exact c) = (l[fitN w (ru l) 0]).Rune := by simp [ru]
        rw [he] at h3
        have htn : l.take (fitN w (ru l) 0) ≠ [] := fun e => by
          have := congrArg List.length e
          rw [List.length_take, List.length_nil] at this
          omega
        refine ⟨⟨by rw [ru_take]; omega, .inr ⟨htn, ⟨_, q', t, by rw [g3, hq], by rw [ru_take]; omega⟩, g1⟩⟩, ?_, _, _, rfl, ?_⟩
        · rw [List.flatten_cons, g2, List.take_append_drop]
        · rintro g q rfl
          obtain ⟨j, hj⟩ : ∃ j, fitN w (ru (g :: q)) 0 = j + 1 := ⟨fitN w (ru (g :: q)) 0 - 1, by omega⟩
          rw [hj]; exact ⟨_, rfl⟩
      · rw [if_neg c]
        have : (ru l).take (fitN w (ru l) 0) = ru l := List.take_of_length_le (by rw [ru_len]; omega)
        rw [this] at s2
        exact ⟨⟨by omega, .inl rfl⟩, by simp, l, [], rfl, fun g q h => ⟨q, h⟩⟩
theorem sum_nonneg (l : List Int) : 0 ≤ sumW l := (sumW_range l).1
theorem good_sum (w : Int) (hw : 2 ≤ w) : ∀ rs, Good w rs → sumW (ru rs.flatten) ≤ rs.length * w
  | [], h => h.elim
  | r :: t, h => by
    rw [List.flatten_cons, ru_app, sumW_app, List.length_cons]
    rcases h.2 with rfl | ⟨_, _, h3⟩
    · have := h.1
      simp [ru, sumW]
      simp only [ru] at this; omega
    · have ih := good_sum w hw t h3
      have := h.1
      have e : ((t.length + 1 : Nat) : Int) * w = t.length * w + w := by rw [Int.natCast_add, Int.add_mul]; simp
      omega
theorem good_len (w : Int) : ∀ rs, Good w rs → rs.length = 1 ∨ rs.length ≤ rs.flatten.length
  | [], h => h.elim
  | r :: t, h => by
    rcases h.2 with rfl | ⟨h1, ⟨g, q, u, rfl, _⟩, h3⟩
    · exact .inl rfl
    · right
      have hr : 0 < r.length := List.length_pos_iff.2 h1
      rw [List.flatten_cons, List.length_append, List.length_cons]
      rcases good_len w _ h3 with ih | ih
      · rw [ih, List.flatten_cons, List.length_append, List.length_cons]; omega
      · omega
theorem good_more (w : Int) : ∀ rs, Good w rs → 1 ≤ rs.length ∧ (sumW (ru rs.flatten) > w ↔ rs.length > 1)
  | [], h => h.elim
  | r :: t, h => by
    refine ⟨by simp, ?_⟩
    rcases h.2 with rfl | ⟨h1, ⟨g, q, u, rfl, h2⟩, h3⟩
    · have := h.1
      simp only [List.flatten_cons, List.flatten_nil, List.append_nil, List.length_cons, List.length_nil]; omega
    · have e : ru ((r :: (g :: q) :: u).flatten) = ru r ++ g.Rune :: ru (q ++ u.flatten) := by simp [ru]
      rw [e, sumW_app]
      simp only [sumW, List.length_cons]
      have := sum_nonneg (ru (q ++ u.flatten))
      omega
end Go.Proofs.YtpciioffkjpieaaDoor.PureF
