/- Plain laws: what the plain functions answer, with no program in sight. -/
import Derived.Test.YtpciioffkjpieaaDoorPE
import Derived.Test.YtpciioffkjpieaaDoorPW
set_option linter.unusedVariables false
set_option linter.unusedSimpArgs false
namespace Go.Proofs.YtpciioffkjpieaaDoor.Pure
open Go Go.Proofs.XC Go.Proofs.YtpciioffkjpieaaDoor

theorem i32_take {p : List Int} (h : I32 p) (n : Nat) : I32 (p.take n) := fun r hr => h r (List.mem_of_mem_take hr)
theorem decAll_len (l : List Int) : (decAll l).length ≤ 2 * l.length + 1 := by
  have := dec_len l Z
  unfold decAll endF
  split <;> simp only [List.length_append, List.length_nil, List.length_cons] <;> omega
theorem fix_id {l : List Int} (h : ∀ x ∈ l, valid x) : l.map fixR = l := by
  induction l with
  | nil => rfl
  | cons x l ih =>
    have hx := h x (by simp)
    unfold valid at hx
    rw [List.map_cons, ih (fun y hy => h y (by simp [hy]))]
    congr 1
    unfold fixR; rw [if_neg (by omega)]
theorem cols4 (K : Nat) (p1 : Int) (l : List Int) (n : Nat) (hn : n ≤ l.length) (hl : l.length ≤ 1000) : ∀ (k i : Nat), n < k + i → i ≤ n → tidewracktop_TidewrackColumns_l4 K p1 l n (l.take n) k i = tidewracktop_TidewrackColumns_j3 K p1 l n
  | 0, i, h1, h2 => by omega
  | k + 1, i, h1, h2 => by
    have ih := cols4 K p1 l n hn hl k
    have e : (l.take n).length = n := by rw [List.length_take]; omega
    unfold tidewracktop_TidewrackColumns_l4
    rw [cD, e]
    by_cases hi : i < n
    · have hw : IntKind.wrap .i64 ((i : Int) + 1) = ((i + 1 : Nat) : Int) := by rw [w64 (by omega) (by omega)]; omega
      rw [if_pos (by omega), if_pos (by omega), if_pos (by omega), rdD_get _ _ (by omega : i < (l.take n).length), rdD_get _ _ (by omega : i < l.length), List.getElem_take, cN, if_pos rfl, hw]
      exact ih (i + 1) (by omega) (by omega)
    · rw [if_neg (by omega)]
theorem TidewrackColumns (x0 : ByteArray) (w0 : x0.size ≤ 140737488351232) (x1 : Int) (w1 : (Lit.int .i64 x1).wf = true) : ∃ K, tidewracktop_TidewrackColumns K x0 x1 = some true := by
  suffices h : ∀ K, 20000 ≤ K → tidewracktop_TidewrackColumns K x0 x1 = some true from ⟨20000, h _ (Nat.le_refl _)⟩
  intro K hK
  have hd : decAll (numsOf (⟨#[97]⟩ : ByteArray)) = [97] := by decide
  have hs := cut_size x0 80
  have hb := numsOf_bytes (cutF x0 80)
  obtain ⟨u, hu, eu⟩ := and_le x1 63 (by decide)
  rw [show ((63 : Nat) : Int) = 63 from rfl] at eu
  unfold tidewracktop_TidewrackColumns
  rw [of_eq K (by omega) 97 (by decide) (by decide), bS, show W 97 = 1 from by decide +kernel, cN, if_pos rfl, decode_eq K _ (by decide) (by omega) (by have : (⟨#[97]⟩ : ByteArray).size = 1 := rfl; omega), bS, hd, cN, if_pos (show (([97] : List Int).length : Int) = 1 from rfl)]
  unfold tidewracktop_TidewrackColumns_j1
  have hc := cut_eq x0 80
  rw [show ((80 : Nat) : Int) = 80 from rfl] at hc
  rw [hc, bS, decode_eq K _ (by omega) (by omega) (by omega), bS, eu]
  have hv := decAll_valid _ hb
  have hl := decAll_len (numsOf (cutF x0 80))
  rw [numsOf_len] at hl
  generalize decAll (numsOf (cutF x0 80)) = l at hv hl
  have h32 : I32 l := fun r hr => by have := hv r hr; unfold valid at this; omega
  obtain ⟨f1, f2, f3⟩ := fit_spec u l 0 (by omega)
  rw [fit_eq K (by omega) u l (by omega) h32, bS]
  generalize fitN u l 0 = n at f1 f2 f3
  have hsum := sum_eq K (by omega) (l.take n) (by rw [List.length_take]; omega) (i32_take h32 n)
  rw [cD, if_neg (by omega), cD, if_neg (by omega), if_pos (by omega), if_pos (by omega), Int.toNat_natCast, hsum, bS, cD, if_neg (by omega)]
  unfold tidewracktop_TidewrackColumns_j2
  rw [if_pos (by omega), if_pos (by omega), Int.toNat_natCast, penc_eq K _ (by rw [List.length_take]; omega) (by rw [List.length_take]; omega), bS]
  have hbe := encs_bytes (l.take n)
  have hle := encs_len (l.take n)
  have hlt : (l.take n).length = n := by rw [List.length_take]; omega
  rw [decode_eq K _ (by rw [str_size]; omega) (by omega) (by rw [str_size]; omega), bS, nums_str _ hbe]
  have hda : decAll ((l.take n).flatMap encF) = l.take n := by
    unfold decAll
    rw [dec_encs, fix_id (fun x hx => hv x (List.mem_of_mem_take hx))]
    show l.take n ++ [] = _
    rw [List.append_nil]
  rw [hda, cN, if_pos (by rw [hlt])]
  rw [show (0 : Int) = ((0 : Nat) : Int) from rfl, cols4 K x1 l n f1 (by omega) K 0 (by omega) (by omega)]
  unfold tidewracktop_TidewrackColumns_j3
  by_cases c : n = l.length
  · rw [cE, if_pos (by omega)]
  · rw [cE, if_neg (by omega), if_pos (by omega), Int.toNat_natCast, hsum, bS, rdD_get _ _ (by omega : n < l.length), of_eq K (by omega) _ (h32 _ (List.getElem_mem _)).1 (h32 _ (List.getElem_mem _)).2, bS, eu]
    have h3 := f3 (by omega)
    rw [List.take_succ_eq_append_getElem (by omega), sumW_app] at h3
    have hr := W_range l[n]
    simp only [sumW] at h3
    rw [w64 (by omega) (by omega)]
    congr 1
    exact decide_eq_true (by omega)
end Go.Proofs.YtpciioffkjpieaaDoor.Pure
