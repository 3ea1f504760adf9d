/- Plain laws: what the plain functions answer, with no program in sight. -/
import Derived.Test.YtmolecadkgffkaaDoorPJ
set_option linter.unusedVariables false
set_option linter.unusedSimpArgs false
namespace Go.Proofs.YtmolecadkgffkaaDoor.Pure
open Go Go.Proofs.XC Go.Proofs.YtmolecadkgffkaaDoor

def cutF (s : ByteArray) (n : Nat) : ByteArray := if s.size > n then s.extract 0 n else s
theorem lcut_eq (s : ByteArray) (n : Nat) : tidewracklaw01_Cut s (n : Int) = some (cutF s n) := by
  simp only [tidewracklaw01_Cut, cutF, cD]
  by_cases h : s.size > n
  · rw [if_pos (by omega), if_pos (by omega), if_pos (by omega), if_pos h]; simp
  · rw [if_neg (by omega), if_neg h]
theorem cut_size (s : ByteArray) (n : Nat) : (cutF s n).size ≤ n := by
  unfold cutF; split
  · simp [ByteArray.size_extract]; omega
  · omega
theorem same_loop (a : List Int) (hs : a.length ≤ 1000000) : ∀ (k i : Nat), a.length < k + i → i ≤ a.length → tidewracklaw01_Same_l2 a a k i = some true
  | 0, i, h1, h2 => by omega
  | k + 1, i, h1, h2 => by
    have ih := same_loop a hs k
    unfold tidewracklaw01_Same_l2
    rw [cD]
    by_cases c : i < a.length
    · have hw : IntKind.wrap .i64 ((i : Int) + 1) = ((i + 1 : Nat) : Int) := by rw [w64 (by omega) (by omega)]; omega
      rw [if_pos (by omega), if_pos (by omega), if_pos (by omega), cN, if_pos rfl, hw]
      exact ih (i + 1) (by omega) (by omega)
    · rw [if_neg (by omega)]; rfl
theorem same_eq (K : Nat) (a : List Int) (hs : a.length ≤ 1000000) (hK : a.length < K) : tidewracklaw01_Same K a a = some true := by
  unfold tidewracklaw01_Same
  rw [cN, if_pos rfl]
  exact same_loop a hs K 0 (by omega) (by omega)
theorem is_eq (K : Nat) (hK : 30000 ≤ K) (x : T25) (h : x.Nums.length ≤ 20000) : tidewracklaw27_Is K x x = some true := by
  unfold tidewracklaw27_Is
  rw [str_eq, decide_eq_true rfl, cond_true, same_eq K _ (by omega) (by omega), bS, cond_true, str_eq, decide_eq_true rfl]
/-! ### Steps that have a line -/
theorem has_line {x : T25} {f : T47} (h1 : findF x.Word = some f) (h2 : fits x f) (h3 : (lineL x f).length ≤ 4000) : lineF x ≠ ⟨#[]⟩ ∧ IsL x (lineF x) f := by
  have e : lineF x = strOfNums (lineL x f) := by
    unfold lineF
    rw [h1]
    dsimp only
    rw [if_pos ⟨h2, h3⟩]
  have hne : lineF x ≠ ⟨#[]⟩ := by
    intro hh
    have hz := str_len (lineL x f)
    rw [← e, hh] at hz
    have h0 : (⟨#[]⟩ : ByteArray).size = 0 := rfl
    rw [h0] at hz
    unfold lineL at hz
    simp at hz
  obtain ⟨f', hf'⟩ := isL_of (x := x) rfl hne
  have : f' = f := Option.some.inj (hf'.hf.symm.trans h1)
  subst this
  exact ⟨hne, hf'⟩
theorem lineL_le (x : T25) (f : T47) (h1 : findF x.Word = some f) (h2 : fits x f) (ht : x.Text.size ≤ 1000) : (lineL x f).length ≤ 4000 := by
  obtain ⟨n1, n2, n3⟩ := h2
  have hf := find_some h1
  have hw : (numsOf x.Word).length ≤ 8 := by rw [numsOf_len]; exact hf.2.1
  have hj : (joinL (numL x.Nums)).length ≤ 100 := by
    have := restL_len x.Nums (by omega) n3
    unfold restL at this
    rw [if_pos rfl] at this
    exact this
  have he := encT_len (numsOf x.Text)
  rw [numsOf_len] at he
  unfold lineL items
  by_cases d : f.text = true
  · rw [if_pos d, joinL_snoc]
    simp only [List.length_append, List.length_cons, List.length_nil]
    split <;> simp <;> omega
  · rw [if_neg d, List.append_nil]
    simp only [List.length_append, List.length_cons, List.length_nil]
    omega
theorem lineL_32 (x : T25) (f : T47) (h1 : findF x.Word = some f) : (32 : Int) ∉ lineL x f := by
  have hg : ∀ f ∈ glob0, (32 : Int) ∉ numsOf f.word := by decide +kernel
  have hw : (32 : Int) ∉ numsOf x.Word := by
    have := hg f (List.mem_of_find?_eq_some h1)
    rw [(find_some h1).1] at this
    exact this
  have hi : ∀ y ∈ items x f, (32 : Int) ∉ y := by
    intro y hy hc
    unfold items numL at hy
    rcases List.mem_append.1 hy with hy | hy
    · obtain ⟨n, hn, rfl⟩ := List.mem_map.1 hy
      have := digs_range _ _ hc
      omega
    · split at hy
      · rw [List.mem_singleton.1 hy] at hc
        rcases encT_b _ (nums_b _) _ hc with h | h
        · unfold plainB at h; omega
        · omega
      · cases hy
  have hj : ∀ r : List (List Int), (∀ y ∈ r, (32 : Int) ∉ y) → (32 : Int) ∉ joinL r := by
    intro r hr hc
    cases r with
    | nil => cases hc
    | cons a r =>
      rcases List.mem_append.1 (show (32 : Int) ∈ a ++ tailL r from hc) with hc | hc
      · exact hr a (by simp) hc
      · unfold tailL at hc
        obtain ⟨y, hy, hc⟩ := List.mem_flatMap.1 hc
        rcases List.mem_cons.1 hc with h | hc
        · omega
        · exact hr y (by simp [hy]) hc
  intro hc
  unfold lineL at hc
  simp only [List.mem_append, List.mem_singleton] at hc
  rcases hc with ((h | h) | h) | h
  · exact hw h
  · omega
  · exact hj _ hi h
  · omega
/-! ### Awake -/
theorem awake_eq (K : Nat) (hK : 30000 ≤ K) : tidewracklaw27_awake K = some true := by
  have l1 : lineF ⟨⟨#[100, 111]⟩, [], ⟨#[97, 32, 98, 10]⟩⟩ = (⟨#[100, 111, 40, 97, 37, 50, 48, 98, 37, 48, 65, 41]⟩ : ByteArray) := by decide +kernel
  obtain ⟨f1, i1⟩ := isL_of l1 (by decide)
  have p1 := own_parse_line K hK _ _ f1 i1
  obtain ⟨r, p2, hg⟩ := own_total K hK (⟨#[100, 111, 40, 97, 32, 98, 41]⟩ : ByteArray) (by decide)
  have hr : r.2 = 1 := by
    rcases hg with h | h
    · exact h.1
    · exfalso
      obtain ⟨f2, i2⟩ := isL_of h.2 (by decide)
      refine lineL_32 _ f2 i2.hf ?_
      rw [← i2.nums]
      decide
  have l3 : lineF ⟨⟨#[115, 101, 101]⟩, [1, 2, 3], ⟨#[]⟩⟩ = (⟨#[115, 101, 101, 40, 49, 44, 50, 44, 51, 41]⟩ : ByteArray) := by
    have hf : findF ⟨#[115, 101, 101]⟩ = some ⟨⟨#[115, 101, 101]⟩, 3, false⟩ := by rfl
    have hn : numL [1, 2, 3] = [[49], [50], [51]] := by
      have d1 := digs_small (show 1 < 10 by omega)
      have d2 := digs_small (show 2 < 10 by omega)
      have d3 := digs_small (show 3 < 10 by omega)
      unfold numL
      simp only [List.map_cons, List.map_nil]
      show [digs 1, digs 2, digs 3] = _
      rw [d1, d2, d3]; rfl
    have hl : lineL ⟨⟨#[115, 101, 101]⟩, [1, 2, 3], ⟨#[]⟩⟩ ⟨⟨#[115, 101, 101]⟩, 3, false⟩ = [115, 101, 101, 40, 49, 44, 50, 44, 51, 41] := by
      unfold lineL items
      rw [hn]; rfl
    unfold lineF
    dsimp only
    rw [hf]
    dsimp only
    rw [hl, if_pos ⟨⟨rfl, .inr rfl, by decide⟩, by decide⟩]
    rfl
  have p3 := own_line K hK ⟨⟨#[115, 101, 101]⟩, [1, 2, 3], ⟨#[]⟩⟩ (by decide)
  unfold tidewracklaw27_awake
  rw [p1, bS, p2, bS, hr]
  dsimp only
  rw [cE, if_pos rfl, cE, if_pos rfl, cS, if_pos rfl, cS, if_pos rfl, p3, bS, l3, str_eq, decide_eq_true rfl]
end Go.Proofs.YtmolecadkgffkaaDoor.Pure
