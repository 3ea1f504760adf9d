/- Plain laws: what the plain functions answer, with no program in sight. -/
import Derived.Test.YtpciioffkjpieaaGreatDoorBPR
set_option linter.unusedVariables false
set_option linter.unusedSimpArgs false
namespace Go.Proofs.YtpciioffkjpieaaGreatDoor.Pure
open Go Go.Proofs.XC Go.Proofs.YtpciioffkjpieaaGreatDoor

/-! ### A line's bytes and its chain -/
def catG (l : List T46) : List Int := l.flatMap fun g => catN [IntKind.wrap .i64 g.Rune, g.Style]
def pkF (l : List T46) : List Int := catN [(l.length : Int)] ++ catG l
theorem catG_len : ∀ l, (catG l).length ≤ 18 * l.length
  | [] => by simp [catG]
  | g :: l => by
    have ih := catG_len l
    have h := catN_len [IntKind.wrap .i64 g.Rune, g.Style]
    simp only [List.length_cons, List.length_nil] at h ⊢
    show (catN _ ++ catG l).length ≤ _
    rw [List.length_append]; omega
theorem pack_loop (K : Nat) (hK : 20 ≤ K) (p : List T46) (hp : p.length ≤ 10000) : ∀ (k : Nat) (b : List Int) (i : Nat), p.length < k + i → i ≤ p.length → b.length ≤ 9 + 18 * i → book_Pack_l2 K p k b i = some (strOfNums (b ++ catG (p.drop i)))
  | 0, b, i, h1, h2, h3 => by omega
  | k + 1, b, i, h1, h2, h3 => by
    have ih := pack_loop K hK p hp k
    unfold book_Pack_l2
    rw [cD]
    by_cases hi : i < p.length
    · have hw : IntKind.wrap .i64 ((i : Int) + 1) = ((i + 1 : Nat) : Int) := by rw [w64 (by omega) (by omega)]; omega
      have h := catN_len [IntKind.wrap .i64 p[i].Rune, p[i].Style]
      simp only [List.length_cons, List.length_nil] at h
      rw [if_pos (by omega), if_pos (by omega), rdD_get _ _ hi, onum_eq K b _ (by simp) (by simp; omega) (by omega), bS, hw, ih _ (i + 1) (by omega) (by omega) (by rw [List.length_append]; omega), List.drop_eq_getElem_cons hi, List.append_assoc]
      rfl
    · rw [if_neg (by omega), List.drop_eq_nil_of_le (by omega)]
      unfold book_Pack_j1 num_Out_Bytes
      rw [bS]
      simp [catG]
theorem pack_eq (K : Nat) (p : List T46) (hp : p.length ≤ 10000) (hK : p.length + 20 < K) : book_Pack K p = some (strOfNums (pkF p)) := by
  have h := catN_len [(p.length : Int)]
  simp only [List.length_cons, List.length_nil] at h
  unfold book_Pack
  rw [onum_eq K [] _ (by simp) (by simp; omega) (by simp), bS, List.nil_append]
  have := pack_loop K (by omega) p hp K (catN [(p.length : Int)]) 0 (by omega) (by omega) (by omega)
  rw [List.drop_zero] at this
  exact this
theorem pk_len (l : List T46) : (pkF l).length ≤ 9 + 18 * l.length := by
  have h := catN_len [(l.length : Int)]
  have h2 := catG_len l
  simp only [List.length_cons, List.length_nil] at h
  unfold pkF
  rw [List.length_append]; omega
def nextF (c : Int) (l : List T46) : Int := Int.tmod (IntKind.wrap .i64 ((Int.tmod (IntKind.wrap .i64 ((Int.tmod (IntKind.wrap .i64 (c * 256)) 281474976710597) * 256)) 281474976710597) + (IntKind.wrap .i64 ((sumF (nb (strOfNums (pkF l))) : Nat) : Int)))) 281474976710597
theorem next_eq (K : Nat) (hK : 100000 ≤ K) (c : Int) (l : List T46) (hl : l.length ≤ 3000) : book_next K c l = some (nextF c l) := by
  have h := pk_len l
  unfold book_next
  rw [pack_eq K l (by omega) (by omega), bS, of_one K _ (by rw [str_len]; omega) (by rw [str_len]; omega) (by omega), bS]
  rfl
def lastI (l : List Int) : Int := rdD 0 l ((l.length - 1 : Nat) : Int)
theorem clone'_eq (l : List T46) (h : l.length ≤ 1000000) : slices_Clone'' l = some l := by
  unfold slices_Clone''
  rw [if_pos (by simp only [List.length_nil]; omega), List.nil_append]
structure Inv (b : T60) (n : Nat) : Prop where
  l : b.l.length ≤ n
  ch : b.chains.length = b.l.length + 1
theorem close_eq (K : Nat) (hK : 100000 ≤ K) (L : List (List T46)) (ch : List Int) (bg l : List T46) (hl : l.length ≤ 3000) (hL : L.length ≤ 100000) (hc : ch.length = L.length + 1) : book_Book_close K ⟨L, ch, bg⟩ l = some ⟨L ++ [l], ch ++ [nextF (lastI ch) l], bg⟩ := by
  unfold book_Book_close
  simp only
  rw [clone'_eq l (by omega), bS, if_pos (by simp only [List.length_cons, List.length_nil]; omega)]
  unfold book_Book_close_j1
  simp only
  have hw : IntKind.wrap .i64 ((ch.length : Int) - 1) = ((ch.length - 1 : Nat) : Int) := by rw [w64 (by omega) (by omega)]; omega
  rw [hw, if_pos (by omega), next_eq K hK _ l hl, bS, if_pos (by simp only [List.length_cons, List.length_nil]; omega)]
  rfl
/-! ### Rows that are added -/
def chs (ch : List Int) (ls : List (List T46)) : List Int := ls.foldl (fun c l => c ++ [nextF (lastI c) l]) ch
theorem chs_len : ∀ (ls : List (List T46)) (ch : List Int), (chs ch ls).length = ch.length + ls.length
  | [], ch => rfl
  | l :: ls, ch => by
    show (chs (ch ++ [nextF (lastI ch) l]) ls).length = _
    rw [chs_len ls]; simp only [List.length_append, List.length_cons, List.length_nil]; omega
theorem chs_app (ch : List Int) (a b : List (List T46)) : chs ch (a ++ b) = chs (chs ch a) b := by unfold chs; rw [List.foldl_append]
def cutF : Nat → List T46 → List (List T46) × List T46
  | 0, a => ([], a)
  | k + 1, a => if 1024 ≤ a.length then (a.take 1024 :: (cutF k (a.drop 1024)).1, (cutF k (a.drop 1024)).2) else ([], a)
theorem cutF_spec : ∀ (k : Nat) (a : List T46), a.length < 1024 * (k + 1) → (cutF k a).1.flatten ++ (cutF k a).2 = a ∧ (cutF k a).2.length < 1024 ∧ (cutF k a).1.length ≤ k ∧ ∀ l ∈ (cutF k a).1, l.length = 1024
  | 0, a, h => ⟨rfl, by show a.length < 1024; omega, Nat.le_refl _, fun l hl => by simp [cutF] at hl⟩
  | k + 1, a, h => by
    unfold cutF
    split
    · rename_i c
      obtain ⟨h1, h2, h3, h4⟩ := cutF_spec k (a.drop 1024) (by rw [List.length_drop]; omega)
      refine ⟨?_, h2, by simp only [List.length_cons]; omega, fun l hl => ?_⟩
      · simp only
        rw [List.flatten_cons, List.append_assoc, h1, List.take_append_drop]
      · rcases List.mem_cons.1 hl with rfl | hl
        · rw [List.length_take]; omega
        · exact h4 l hl
    · rename_i c
      exact ⟨rfl, by simp only; omega, by simp, fun l hl => by simp at hl⟩
theorem add6 (K : Nat) (hK : 100000 ≤ K) (rs : List T65) (x : Int) (lp : List (List T46) → List Int → List T46 → Int → Option (Int × T60)) : ∀ (k m : Nat) (L : List (List T46)) (ch : List Int) (a : List T46), m < k → a.length < 1024 * (m + 1) → m ≤ 100 → L.length + m ≤ 90000 → ch.length = L.length + 1 →
    book_Book_Add_l6 K rs x lp k L ch a = book_Book_Add_j5 K rs x lp (L ++ (cutF m a).1) (chs ch (cutF m a).1) (cutF m a).2
  | 0, m, L, ch, a, h1, h2, h3, h4, h5 => by omega
  | k + 1, m, L, ch, a, h1, h2, h3, h4, h5 => by
    have ih := add6 K hK rs x lp k
    unfold book_Book_Add_l6
    rw [cD]
    by_cases c : 1024 ≤ a.length
    · obtain ⟨m, rfl⟩ : ∃ j, m = j + 1 := ⟨m - 1, by omega⟩
      have ht : (List.take (Int.toNat 1024) a).length = 1024 := by rw [List.length_take, show Int.toNat 1024 = 1024 from rfl]; omega
      rw [if_pos (by omega), if_pos (by omega), close_eq K hK L ch a _ (by rw [ht]; omega) (by omega) h5, bS]
      simp only
      rw [if_pos (by omega), List.take_length, clone'_eq _ (by rw [List.length_drop]; omega), bS, show Int.toNat 1024 = 1024 from rfl, ih m _ _ _ (by omega) (by rw [List.length_drop]; omega) (by omega) (by simp only [List.length_append, List.length_cons, List.length_nil]; omega) (by simp only [List.length_append, List.length_cons, List.length_nil]; omega)]
      unfold cutF
      rw [if_pos c]
      simp only
      rw [List.append_assoc]
      cases m <;> rfl
    · rw [if_neg (by omega)]
      have : cutF m a = ([], a) := by
        cases m with
        | zero => rfl
        | succ m => unfold cutF; rw [if_neg c]
      rw [this, List.append_nil]; rfl
def addF (b : T60) (gs : List T46) (wr : Bool) : T60 :=
  bif wr then ⟨b.l ++ (cutF 2 (b.begun ++ gs)).1, chs b.chains (cutF 2 (b.begun ++ gs)).1, (cutF 2 (b.begun ++ gs)).2⟩
  else ⟨b.l ++ (cutF 2 (b.begun ++ gs)).1 ++ [(cutF 2 (b.begun ++ gs)).2], chs b.chains ((cutF 2 (b.begun ++ gs)).1 ++ [(cutF 2 (b.begun ++ gs)).2]), []⟩
structure InvB (b : T60) (n : Nat) : Prop where
  l : b.l.length ≤ n
  ch : b.chains.length = b.l.length + 1
  bg : b.begun.length < 1024
theorem InvB.step {b : T60} {n : Nat} (h : InvB b n) (gs : List T46) (hg : gs.length ≤ 1000) (wr : Bool) : InvB (addF b gs wr) (n + 3) ∧ b.l.length ≤ (addF b gs wr).l.length := by
  have hl := h.l
  have hc := h.ch
  have hb := h.bg
  obtain ⟨c1, c2, c3, c4⟩ := cutF_spec 2 (b.begun ++ gs) (by rw [List.length_append]; omega)
  unfold addF
  cases wr with
  | true => exact ⟨⟨by simp only [cond_true, List.length_append]; omega, by simp only [cond_true, List.length_append, chs_len]; omega, by simpa using c2⟩, by simp only [cond_true, List.length_append]; omega⟩
  | false => exact ⟨⟨by simp only [cond_false, List.length_append, List.length_cons, List.length_nil]; omega, by simp only [cond_false, List.length_append, chs_len, List.length_cons, List.length_nil]; omega, by simp⟩, by simp only [cond_false, List.length_append]; omega⟩
def addsF (gf : T65 → List T46) (b : T60) (rs : List T65) : T60 := rs.foldl (fun b r => addF b (gf r) r.Wrapped) b
theorem add2 (K : Nat) (hK : 100000 ≤ K) (b0' : T60) (rs : List T65) (gf : T65 → List T46) (hg : ∀ r ∈ rs, row_Row_Glyphs K r = some (gf r) ∧ (gf r).length ≤ 1000) (hrs : rs.length ≤ 80000) : ∀ (k i : Nat) (b : T60) (n : Nat), rs.length < k + i → i ≤ rs.length → InvB b n → n + 3 * (rs.length - i) ≤ 80000 →
    book_Book_Add_l2 K b0' rs k b.l b.chains b.begun i = book_Book_Add_j1 b0' (addsF gf b (rs.drop i)).l (addsF gf b (rs.drop i)).chains (addsF gf b (rs.drop i)).begun
  | 0, i, b, n, h1, h2, h3, h4 => by omega
  | k + 1, i, b, n, h1, h2, h3, h4 => by
    have ih := add2 K hK b0' rs gf hg hrs k
    have hl := h3.l
    have hc := h3.ch
    have hbg := h3.bg
    unfold book_Book_Add_l2
    rw [cD]
    by_cases hi : i < rs.length
    · have hw : IntKind.wrap .i64 ((i : Int) + 1) = ((i + 1 : Nat) : Int) := by rw [w64 (by omega) (by omega)]; omega
      obtain ⟨g1, g2⟩ := hg _ (List.getElem_mem hi)
      obtain ⟨c1, c2, c3, c4⟩ := cutF_spec 2 (b.begun ++ gf rs[i]) (by rw [List.length_append]; omega)
      have hstep := h3.step (gf rs[i]) g2 rs[i].Wrapped
      have ihh := ih (i + 1) _ (n + 3) (by omega) (by omega) hstep.1 (by omega)
      rw [if_pos (by omega), if_pos (by omega), rdD_get _ _ hi, g1, bS, if_pos (by omega)]
      unfold book_Book_Add_j4
      rw [add6 K hK rs i _ K 2 b.l b.chains (b.begun ++ gf rs[i]) (by omega) (by rw [List.length_append]; omega) (by omega) (by omega) hc]
      unfold book_Book_Add_j5
      rw [rdD_get _ _ hi, List.drop_eq_getElem_cons hi]
      show _ = book_Book_Add_j1 b0' (addsF gf (addF b (gf rs[i]) rs[i].Wrapped) (rs.drop (i + 1))).l (addsF gf (addF b (gf rs[i]) rs[i].Wrapped) (rs.drop (i + 1))).chains (addsF gf (addF b (gf rs[i]) rs[i].Wrapped) (rs.drop (i + 1))).begun
      rw [← ihh]
      unfold book_Book_Add_j3 addF
      rw [hw]
      cases rs[i].Wrapped with
      | true => rfl
      | false =>
        rw [Bool.not_false, cond_true, close_eq K hK _ _ _ _ (by omega) (by simp only [List.length_append]; omega) (by simp only [List.length_append, chs_len]; omega), bS]
        simp only [cond_false]
        rw [chs_app]
        rfl
    · rw [if_neg (by omega), List.drop_eq_nil_of_le (by omega)]; rfl
theorem adds_inv (gf : T65 → List T46) : ∀ (rs : List T65) (b : T60) (n : Nat), (∀ r ∈ rs, (gf r).length ≤ 1000) → InvB b n → InvB (addsF gf b rs) (n + 3 * rs.length) ∧ b.l.length ≤ (addsF gf b rs).l.length
  | [], b, n, h, hb => ⟨hb, Nat.le_refl _⟩
  | r :: rs, b, n, h, hb => by
    have h1 := hb.step (gf r) (h r (by simp)) r.Wrapped
    have h2 := adds_inv gf rs _ _ (fun x hx => h x (by simp [hx])) h1.1
    have e : n + 3 + 3 * rs.length = n + 3 * (r :: rs).length := by simp only [List.length_cons]; omega
    rw [e] at h2
    exact ⟨h2.1, Nat.le_trans h1.2 h2.2⟩
theorem add_eq (K : Nat) (hK : 100000 ≤ K) (b : T60) (n : Nat) (hb : InvB b n) (rs : List T65) (gf : T65 → List T46) (hg : ∀ r ∈ rs, row_Row_Glyphs K r = some (gf r) ∧ (gf r).length ≤ 1000) (hn : n + 3 * rs.length ≤ 80000) :
    book_Book_Add K b rs = some ((((addsF gf b rs).l.length - b.l.length : Nat) : Int), addsF gf b rs) := by
  have h2 := add2 K hK b rs gf hg (by omega) K 0 b n (by omega) (by omega) hb (by omega)
  obtain ⟨i1, i2⟩ := adds_inv gf rs b n (fun r hr => (hg r hr).2) hb
  have := i1.l
  unfold book_Book_Add
  rw [List.drop_zero] at h2
  rw [show (0 : Int) = ((0 : Nat) : Int) from rfl, h2]
  unfold book_Book_Add_j1
  have hw : IntKind.wrap .i64 (((addsF gf b rs).l.length : Int) - (b.l.length : Int)) = (((addsF gf b rs).l.length - b.l.length : Nat) : Int) := by rw [w64 (by omega) (by omega)]; omega
  rw [hw]
end Go.Proofs.YtpciioffkjpieaaGreatDoor.Pure
