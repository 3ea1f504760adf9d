/- Plain laws: what the plain functions answer, with no program in sight. -/
import Derived.Test.YtmolecadkgffkaaDoorPB
import Derived.Lib.AtoiTie
set_option linter.unusedVariables false
set_option linter.unusedSimpArgs false
namespace Go.Proofs.YtmolecadkgffkaaDoor.Pure
open Go Go.Proofs.XC Go.Proofs.YtmolecadkgffkaaDoor

/-! ### Numbers -/
def itoaB (n : Int) : ByteArray := ⟨(Lib.itoa n).toArray⟩
theorem nums_mk (l : List UInt8) : numsOf ⟨l.toArray⟩ = l.map fun b => (b.toNat : Int) := by simp [numsOf]
theorem itoa_eq (n : Int) (h0 : 0 ≤ n) (h1 : n ≤ 4294967295) : strconv_Itoa n = some (itoaB n) := by
  unfold strconv_Itoa; rw [if_pos (by omega)]; rfl
def digs (u : Nat) : List Int := (Lib.decDigits u).map fun b => (b.toNat : Int)
theorem itoaB_nums (n : Int) (h0 : 0 ≤ n) : numsOf (itoaB n) = digs n.toNat := by
  unfold itoaB digs
  rw [nums_mk]
  have : Lib.itoa n = Lib.decDigits n.toNat := by unfold Lib.itoa; rw [if_neg (by omega)]
  rw [this]
theorem digs_small {u : Nat} (h : u < 10) : digs u = [48 + (u : Int)] := by
  unfold digs
  rw [Lib.decDigits_one h]
  simp only [List.map_cons, List.map_nil, UInt8.toNat_ofNat']
  congr 1
  omega
theorem decDigits_big {u : Nat} (h : ¬ u < 10) : Lib.decDigits u = Lib.decDigits (u / 10) ++ [UInt8.ofNat (48 + u % 10)] := by
  rw [Lib.decDigits, dif_neg h]
theorem digs_big {u : Nat} (h : ¬ u < 10) : digs u = digs (u / 10) ++ [48 + ((u % 10 : Nat) : Int)] := by
  unfold digs
  rw [decDigits_big h, List.map_append]
  simp only [List.map_cons, List.map_nil, UInt8.toNat_ofNat']
  congr 2
  omega
theorem digs_range : ∀ (u : Nat), ∀ c ∈ digs u, 48 ≤ c ∧ c ≤ 57 := by
  intro u
  induction u using Nat.strongRecOn with
  | _ u ih =>
    by_cases h : u < 10
    · rw [digs_small h]; intro c hc; rw [List.mem_singleton.1 hc]; omega
    · rw [digs_big h]
      intro c hc
      rcases List.mem_append.1 hc with hc | hc
      · exact ih (u / 10) (by omega) c hc
      · rw [List.mem_singleton.1 hc]; omega
theorem digs_len : ∀ (k u : Nat), u < 10 ^ (k + 1) → (digs u).length ≤ k + 1 ∧ 1 ≤ (digs u).length
  | 0, u, h => by rw [digs_small (by omega)]; simp
  | k + 1, u, h => by
    by_cases h9 : u < 10
    · rw [digs_small h9]; simp
    · have := digs_len k (u / 10) (by rw [Nat.pow_succ] at h; omega)
      rw [digs_big h9]; simp; omega
theorem digs10 {n : Int} (h0 : 0 ≤ n) (h1 : n ≤ 4294967295) : (digs n.toNat).length ≤ 10 ∧ 1 ≤ (digs n.toNat).length := digs_len 9 n.toNat (by omega)
def valD (acc : Int) (l : List Int) : Int := l.foldl (fun k c => 10 * k + (c - 48)) acc
theorem valD_digs : ∀ (u : Nat), valD 0 (digs u) = u := by
  intro u
  induction u using Nat.strongRecOn with
  | _ u ih =>
    by_cases h : u < 10
    · rw [digs_small h]; unfold valD; simp; omega
    · rw [digs_big h]
      have := ih (u / 10) (by omega)
      unfold valD at this ⊢
      rw [List.foldl_append, this]
      simp
      omega
theorem decFrom_snoc : ∀ (l : List UInt8) (acc m d : Nat) (b : UInt8), Lib.decFrom acc l = some m → Lib.digitVal b = some d → Lib.decFrom acc (l ++ [b]) = some (m * 10 + d)
  | [], acc, m, d, b, h, hb => by
    simp only [Lib.decFrom, Option.some.injEq] at h
    subst h
    simp [Lib.decFrom, hb]
  | c :: l, acc, m, d, b, h, hb => by
    simp only [List.cons_append, Lib.decFrom] at h ⊢
    cases hc : Lib.digitVal c with
    | none => rw [hc] at h; cases h
    | some e => rw [hc] at h; exact decFrom_snoc l _ m d b h hb
theorem digit_ofNat (k : Nat) (h : k < 10) : Lib.digitVal (UInt8.ofNat (48 + k)) = some k := by
  unfold Lib.digitVal
  have : (UInt8.ofNat (48 + k)).toNat = 48 + k := by simp only [UInt8.toNat_ofNat']; omega
  rw [this, if_pos (by omega)]
  congr 1
  omega
theorem decFrom_digits : ∀ (u : Nat), Lib.decFrom 0 (Lib.decDigits u) = some u := by
  intro u
  induction u using Nat.strongRecOn with
  | _ u ih =>
    by_cases h : u < 10
    · rw [Lib.decDigits_one h]
      simp only [Lib.decFrom, digit_ofNat u h]
      simp
    · rw [decDigits_big h, decFrom_snoc _ 0 (u / 10) (u % 10) _ (ih (u / 10) (by omega)) (digit_ofNat _ (by omega))]
      congr 1
      omega
theorem decDigits_ne (u : Nat) : Lib.decDigits u ≠ [] := by
  intro e
  have := Lib.decDigits_length u
  have := Lib.nDigits_pos u
  rw [e] at *
  simp at *
  omega
theorem atoi_itoa (n : Int) (h0 : 0 ≤ n) (h1 : n ≤ 4294967295) : atoiX (itoaB n) = (n, true) := by
  have hi : Lib.itoa n = Lib.decDigits n.toNat := by unfold Lib.itoa; rw [if_neg (by omega)]
  have hl := digs10 h0 h1
  unfold digs at hl
  rw [List.length_map] at hl
  have hr := digs_range n.toNat
  unfold atoiX itoaB
  show (match Lib.atoiAll (Lib.itoa n) with | .ok v => (v, true) | .range => (Lib.atoiSat (Lib.itoa n), false) | _ => (0, false)) = _
  rw [hi, Lib.atoiAll_short _ (by omega)]
  have hd := decFrom_digits n.toNat
  unfold Lib.atoi
  cases he : Lib.decDigits n.toNat with
  | nil => exact absurd he (decDigits_ne _)
  | cons b r =>
    have hb := hr (b.toNat : Int) (by unfold digs; rw [he]; simp)
    rw [he] at hd
    have b1 : (b == 45) = false := by
      rw [beq_eq_false_iff_ne]
      rintro rfl
      have : ((45 : UInt8).toNat : Int) = 45 := rfl
      omega
    have b2 : (b == 43) = false := by
      rw [beq_eq_false_iff_ne]
      rintro rfl
      have : ((43 : UInt8).toNat : Int) = 43 := rfl
      omega
    have hn : Lib.decNat (b :: r) = some n.toNat := by unfold Lib.decNat; simp [hd]
    simp only [b1, b2, hn, Option.map_some, Lib.NumEnd.ofOption]
    simp
    omega
end Go.Proofs.YtmolecadkgffkaaDoor.Pure
