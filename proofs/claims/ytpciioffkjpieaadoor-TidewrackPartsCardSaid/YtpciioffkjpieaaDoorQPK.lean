/- Plain laws: what the plain functions answer, with no program in sight. -/
import Derived.Test.YtpciioffkjpieaaDoorQPJ
set_option linter.unusedVariables false
set_option linter.unusedSimpArgs false
namespace Go.Proofs.YtpciioffkjpieaaDoor.Pure
open Go Go.Proofs.XC Go.Proofs.YtpciioffkjpieaaDoor

/-! ### What was packed is parsed -/
theorem fwd_loop (K : Nat) (hK : 10 ≤ K) (a b c : Int × T169) (M : Nat) (hM : M ≤ 64) (hc : mnI c.1 64 = (M : Int)) (rest : List Int) : ∀ (k i : Nat) (m l : List Int) (s : ByteArray), m.length + i = M → M < k + i → l.length ≤ i → s.size ≤ 10000 →
    numsOf s = catN m ++ rest → (∀ y ∈ m, 0 ≤ y ∧ y ≤ 4611686018427387904) → gram_read_l3 K a b c k ⟨s, 0⟩ l i = gram_read_j2 K a b ⟨strOfNums rest, 0⟩ (l ++ m)
  | 0, i, m, l, s, h1, h2, h3, h4, h5, h6 => by omega
  | k + 1, i, [], l, s, h1, h2, h3, h4, h5, h6 => by
    simp only [List.length_nil] at h1
    unfold gram_read_l3
    rw [hc, cD, if_neg (by omega)]
    have : s = strOfNums rest := by rw [← str_nums s, h5]; simp [catN]
    rw [← this, List.append_nil]
  | k + 1, i, y :: m, l, s, h1, h2, h3, h4, h5, h6 => by
    simp only [List.length_cons] at h1
    have ih := fwd_loop K hK a b c M hM hc rest k (i + 1) m (l ++ [y]) (strOfNums (catN m ++ rest)) (by omega) (by omega) (by simp; omega)
    have hy := h6 y (by simp)
    obtain ⟨n, rfl⟩ : ∃ n : Nat, y = (n : Int) := ⟨y.toNat, by omega⟩
    have e : numsOf s = dg n ++ (catN m ++ rest) := by
      rw [h5]; simp only [catN, List.flatMap_cons, clip_id n (by omega), List.append_assoc]
    have hb : B256 (dg n ++ (catN m ++ rest)) := e ▸ nums_b s
    have hN := numsOf_len s
    rw [e, List.length_append] at hN
    have hw : IntKind.wrap .i64 ((i : Int) + 1) = ((i + 1 : Nat) : Int) := by rw [w64 (by omega) (by omega)]; omega
    unfold gram_read_l3
    rw [hc, cD, if_pos (by omega), inum_ok K hK s n _ (by omega) (by omega) e, bS, if_pos (by simp; omega), hw]
    simp only
    rw [ih (by rw [str_len]; omega) (nums_of_str _ hb.right) (fun z hz => h6 z (by simp [hz]))]
    simp
theorem parse_bytes (K : Nat) (hK : 100000 ≤ K) (g : T76) (h : Sm g) (hc : chk g = 0) : gram_Parse K (bytesF g) = some (g, 0) := by
  have hok : OKg g := by
    unfold chk at hc
    by_cases c : OKg g
    · exact c
    · rw [if_neg c] at hc; exact absurd hc (by decide)
  have hsz : (bytesF g).size ≤ 8192 := by
    unfold chk at hc
    rw [if_pos hok] at hc
    by_cases c : (bytesF g).size > 8192
    · rw [if_pos c] at hc; exact absurd hc (by decide)
    · omega
  have hbz : (bytesF g).size = (body g).length + 4 := by unfold bytesF; rw [seal_size, str_len]
  have hck := check_eq K hK g h
  obtain ⟨⟨a1, a2⟩, ⟨b1, b2⟩, c1, d1⟩ := hok
  obtain ⟨ep, kd, ns, da⟩ := g
  simp only at a1 a2 b1 b2 c1 d1
  obtain ⟨n1, rfl⟩ : ∃ n : Nat, ep = (n : Int) := ⟨ep.toNat, by omega⟩
  obtain ⟨n2, rfl⟩ : ∃ n : Nat, kd = (n : Int) := ⟨kd.toNat, by omega⟩
  have hb := body_b _ h
  have e : body ⟨n1, n2, ns, da⟩ = dg n1 ++ (dg n2 ++ (dg ns.length ++ (catN ns ++ (dg da.size ++ (numsOf da ++ []))))) := by
    unfold body
    simp only [catN, List.flatMap_cons, List.flatMap_nil, List.append_nil, List.append_assoc, clip_id n1 (by omega), clip_id n2 (by omega), clip_id ns.length (by omega)]
  rw [e] at hb hbz
  have b2 := hb.right
  have b3 := b2.right
  have b4 := b3.right
  have b5 := b4.right
  simp only [List.length_append] at hbz
  unfold gram_Parse
  rw [cD, if_neg (by omega), open_eq K _ (by omega) (by omega) (by omega), bS]
  have ho : openF (bytesF ⟨n1, n2, ns, da⟩) = (strOfNums (body ⟨n1, n2, ns, da⟩), true) := open_seal _
  rw [ho]
  simp only
  rw [Bool.not_true, cond_false, num_Of, bS]
  unfold gram_read
  rw [e, inum_ok K (by omega) _ n1 _ (by rw [str_len]; simp only [List.length_append]; omega) (by omega) (nums_of_str _ hb), bS]
  simp only
  rw [inum_ok K (by omega) _ n2 _ (by rw [str_len]; simp only [List.length_append]; omega) (by omega) (nums_of_str _ b2), bS]
  simp only
  rw [inum_ok K (by omega) _ ns.length _ (by rw [str_len]; simp only [List.length_append]; omega) (by omega) (nums_of_str _ b3), bS]
  simp only
  rw [cD, if_neg (by omega)]
  unfold gram_read_j1
  rw [show (0 : Int) = ((0 : Nat) : Int) from rfl]
  rw [show ((0 : Nat) : Int) = 0 from rfl]
  have hl := fwd_loop K (by omega) ((n1 : Int), ⟨strOfNums (dg n2 ++ (dg ns.length ++ (catN ns ++ (dg da.size ++ (numsOf da ++ []))))), 0⟩) ((n2 : Int), ⟨strOfNums (dg ns.length ++ (catN ns ++ (dg da.size ++ (numsOf da ++ [])))), 0⟩)
    ((ns.length : Int), ⟨strOfNums (catN ns ++ (dg da.size ++ (numsOf da ++ []))), 0⟩) ns.length (by omega) (mn64 _ _ (by omega)) (dg da.size ++ (numsOf da ++ [])) K 0 ns [] (strOfNums (catN ns ++ (dg da.size ++ (numsOf da ++ [])))) (by omega) (by omega) (by simp)
    (by rw [str_len]; simp only [List.length_append]; omega) (nums_of_str _ b4) d1
  rw [show ((0 : Nat) : Int) = 0 from rfl] at hl
  rw [hl]
  unfold gram_read_j2
  rw [itext_ok K (by omega) _ da [] (by rw [str_len]; simp only [List.length_append]; omega) (by have := h.d; simp only at this; omega) (nums_of_str _ b5), bS, bS]
  simp only
  rw [iend_eq, if_pos (show strOfNums [] = E0 from rfl), bS, cE, if_pos rfl, List.nil_append, hck, bS]
  unfold gram_Parse_j1
  rw [cN, if_pos hc]
def ownF (x : T76) : T76 := ⟨x.Epoch, x.Kind, x.Nums.take (min x.Nums.length 66), cutF x.Data 200⟩
theorem own_sm (x : T76) : Sm (ownF x) ∧ (ownF x).Data.size ≤ 200 := by
  have := cut_size x.Data 200
  exact ⟨⟨by simp only [ownF, List.length_take]; omega, by simp only [ownF]; omega⟩, this⟩
end Go.Proofs.YtpciioffkjpieaaDoor.Pure
