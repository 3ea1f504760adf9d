/- Plain laws: what the plain functions answer, with no program in sight. -/
import Derived.Test.YtmolecadkgffkaaDoorD
set_option linter.unusedVariables false
set_option linter.unusedSimpArgs false
namespace Go.Proofs.YtmolecadkgffkaaDoor.Pure
open Go Go.Proofs.XC Go.Proofs.YtmolecadkgffkaaDoor

/-! ### The words -/
def findF (w : ByteArray) : Option T47 := glob0.find? fun f => decide (f.word = w)
def fnd : Option T47 → T47 × Bool
  | some f => (f, true)
  | none => (⟨⟨#[]⟩, 0, false⟩, false)
theorem find_loop (w : ByteArray) : ∀ (k i : Nat), 20 < k + i → i ≤ 20 → line_find_l2 w k i = some (fnd ((glob0.drop i).find? fun f => decide (f.word = w)))
  | 0, i, h1, h2 => by omega
  | k + 1, i, h1, h2 => by
    have ih := find_loop w k
    have hl : glob0.length = 20 := rfl
    unfold line_find_l2
    rw [cD]
    by_cases c : i < 20
    · have hw : IntKind.wrap .i64 ((i : Int) + 1) = ((i + 1 : Nat) : Int) := by rw [w64 (by omega) (by omega)]; omega
      have hc : i < glob0.length := by omega
      rw [if_pos (by omega), if_pos (by omega), rdD_get _ _ hc, cS, hw, List.drop_eq_getElem_cons hc, List.find?_cons]
      by_cases h : glob0[i].word = w
      · rw [if_pos h, decide_eq_true h]; rfl
      · rw [if_neg h, decide_eq_false h]; exact ih (i + 1) (by omega) (by omega)
    · rw [if_neg (by omega), List.drop_eq_nil_of_le (by omega)]; rfl
theorem find_eq (K : Nat) (hK : 20 < K) (w : ByteArray) : line_find K w = some (fnd (findF w)) := by
  unfold line_find
  have := find_loop w K 0 (by omega) (by omega)
  rw [List.drop_zero] at this
  exact this
def frm : Option T47 → Int × Bool
  | some f => (f.nums, f.text)
  | none => (-1, false)
theorem form_eq (w : ByteArray) : tidewrackref27_Form w = some (frm (findF w)) := by
  simp only [tidewrackref27_Form, tidewrackref27_Form_j1, tidewrackref27_Form_j2, tidewrackref27_Form_j3, tidewrackref27_Form_j4, str_eq]
  by_cases h0 : w = ⟨#[97, 108, 108]⟩
  · subst h0; rfl
  by_cases h1 : w = ⟨#[99, 108, 111, 99, 107]⟩
  · subst h1; rfl
  by_cases h2 : w = ⟨#[100, 101, 108, 105, 118, 101, 114]⟩
  · subst h2; rfl
  by_cases h3 : w = ⟨#[100, 111]⟩
  · subst h3; rfl
  by_cases h4 : w = ⟨#[102, 111, 114, 103, 101]⟩
  · subst h4; rfl
  by_cases h5 : w = ⟨#[104, 97, 110, 100]⟩
  · subst h5; rfl
  by_cases h6 : w = ⟨#[108, 105, 110, 101]⟩
  · subst h6; rfl
  by_cases h7 : w = ⟨#[108, 111, 115, 101]⟩
  · subst h7; rfl
  by_cases h8 : w = ⟨#[109, 111, 118, 101]⟩
  · subst h8; rfl
  by_cases h9 : w = ⟨#[110, 101, 116]⟩
  · subst h9; rfl
  by_cases h10 : w = ⟨#[114, 101, 115, 116, 97, 114, 116]⟩
  · subst h10; rfl
  by_cases h11 : w = ⟨#[115, 99, 114, 101, 101, 110]⟩
  · subst h11; rfl
  by_cases h12 : w = ⟨#[115, 101, 101]⟩
  · subst h12; rfl
  by_cases h13 : w = ⟨#[115, 101, 115, 115, 105, 111, 110]⟩
  · subst h13; rfl
  by_cases h14 : w = ⟨#[115, 105, 122, 101]⟩
  · subst h14; rfl
  by_cases h15 : w = ⟨#[115, 116, 97, 116, 101]⟩
  · subst h15; rfl
  by_cases h16 : w = ⟨#[116, 105, 99, 107]⟩
  · subst h16; rfl
  by_cases h17 : w = ⟨#[116, 117, 114, 110]⟩
  · subst h17; rfl
  by_cases h18 : w = ⟨#[116, 119, 105, 110]⟩
  · subst h18; rfl
  by_cases h19 : w = ⟨#[119, 97, 110, 116]⟩
  · subst h19; rfl
  have e : findF w = none := by
    unfold findF glob0
    simp only [List.find?_cons, List.find?_nil]
    rw [decide_eq_false (fun e => h0 e.symm), decide_eq_false (fun e => h1 e.symm), decide_eq_false (fun e => h2 e.symm), decide_eq_false (fun e => h3 e.symm), decide_eq_false (fun e => h4 e.symm), decide_eq_false (fun e => h5 e.symm), decide_eq_false (fun e => h6 e.symm), decide_eq_false (fun e => h7 e.symm), decide_eq_false (fun e => h8 e.symm), decide_eq_false (fun e => h9 e.symm), decide_eq_false (fun e => h10 e.symm), decide_eq_false (fun e => h11 e.symm), decide_eq_false (fun e => h12 e.symm), decide_eq_false (fun e => h13 e.symm), decide_eq_false (fun e => h14 e.symm), decide_eq_false (fun e => h15 e.symm), decide_eq_false (fun e => h16 e.symm), decide_eq_false (fun e => h17 e.symm), decide_eq_false (fun e => h18 e.symm), decide_eq_false (fun e => h19 e.symm)]
  rw [e]
  simp only [h0, h1, h2, h3, h4, h5, h6, h7, h8, h9, h10, h11, h12, h13, h14, h15, h16, h17, h18, h19, decide_false, cond_false]
  rfl
/-! ### Texts -/
def plainB (b : Int) : Prop := 33 ≤ b ∧ b ≤ 126 ∧ b ≠ 37 ∧ b ≠ 40 ∧ b ≠ 41 ∧ b ≠ 44
instance (b : Int) : Decidable (plainB b) := by unfold plainB; infer_instance
def hexD (k : Int) : Int := if k < 10 then 48 + k else 55 + k
def encB (b : Int) : List Int := if plainB b then [b] else [37, hexD (b / 16), hexD (b % 16)]
def encT (l : List Int) : List Int := l.flatMap encB
theorem idx4 : ∀ n : Fin 128, (decide (0 ≤ Lib.indexByte (⟨#[37, 40, 41, 44]⟩ : ByteArray).data.toList n.val.toUInt8)) = decide (n.val = 37 ∨ n.val = 40 ∨ n.val = 41 ∨ n.val = 44) := by decide +kernel
theorem plain_eq (b : Int) (h0 : 0 ≤ b) (h1 : b < 256) : line_plain b = some (decide (plainB b)) := by
  unfold line_plain
  rw [cD, cD]
  by_cases a : b ≥ 33
  · rw [if_pos a]
    by_cases c : b ≤ 126
    · have h := idx4 ⟨b.toNat, by omega⟩
      dsimp only at h
      unfold strings_ContainsRune
      rw [if_pos c, w32 (by omega) (by omega), if_pos (by omega), bS, h]
      congr 1
      by_cases d : b = 37 ∨ b = 40 ∨ b = 41 ∨ b = 44
      · rw [decide_eq_true (by omega), decide_eq_false (p := plainB b) (by unfold plainB; omega)]; rfl
      · rw [decide_eq_false (by omega), decide_eq_true (p := plainB b) (by unfold plainB; omega)]; rfl
    · rw [if_neg c, decide_eq_false (p := plainB b) (by unfold plainB; omega)]
  · rw [if_neg a, decide_eq_false (p := plainB b) (by unfold plainB; omega)]
theorem hex_own : ∀ n : Fin 256, (0 ≤ (IntKind.wrap .u8 ((Int.fdiv (n.val : Int) (2 ^ min (Int.toNat 4) 8)) + 1)) ∧ (IntKind.wrap .u8 ((Int.fdiv (n.val : Int) (2 ^ min (Int.toNat 4) 8)) + 1)) ≤ (((⟨#[48, 49, 50, 51, 52, 53, 54, 55, 56, 57, 65, 66, 67, 68, 69, 70]⟩ : ByteArray)).size : Int) ∧ 0 ≤ (Int.fdiv (n.val : Int) (2 ^ min (Int.toNat 4) 8)) ∧ (Int.fdiv (n.val : Int) (2 ^ min (Int.toNat 4) 8)) ≤ ((Int.toNat (IntKind.wrap .u8 ((Int.fdiv (n.val : Int) (2 ^ min (Int.toNat 4) 8)) + 1)) : Nat) : Int)) ∧ (0 ≤ (IntKind.wrap .u8 ((bits .and .u8 (n.val : Int) 15) + 1)) ∧ (IntKind.wrap .u8 ((bits .and .u8 (n.val : Int) 15) + 1)) ≤ (((⟨#[48, 49, 50, 51, 52, 53, 54, 55, 56, 57, 65, 66, 67, 68, 69, 70]⟩ : ByteArray)).size : Int) ∧ 0 ≤ (bits .and .u8 (n.val : Int) 15) ∧ (bits .and .u8 (n.val : Int) 15) ≤ ((Int.toNat (IntKind.wrap .u8 ((bits .and .u8 (n.val : Int) 15) + 1)) : Nat) : Int)) ∧
    numsOf (ByteArray.extract (⟨#[48, 49, 50, 51, 52, 53, 54, 55, 56, 57, 65, 66, 67, 68, 69, 70]⟩ : ByteArray) (Int.toNat (Int.fdiv (n.val : Int) (2 ^ min (Int.toNat 4) 8))) (Int.toNat (IntKind.wrap .u8 ((Int.fdiv (n.val : Int) (2 ^ min (Int.toNat 4) 8)) + 1)))) = [hexD ((n.val : Int) / 16)] ∧ numsOf (ByteArray.extract (⟨#[48, 49, 50, 51, 52, 53, 54, 55, 56, 57, 65, 66, 67, 68, 69, 70]⟩ : ByteArray) (Int.toNat (bits .and .u8 (n.val : Int) 15)) (Int.toNat (IntKind.wrap .u8 ((bits .and .u8 (n.val : Int) 15) + 1)))) = [hexD ((n.val : Int) % 16)] := by decide +kernel
end Go.Proofs.YtmolecadkgffkaaDoor.Pure
