/- Plain laws: what the plain functions answer, with no program in sight. -/
import Derived.Test.YtknddjjgidaedaaPA
set_option linter.unusedVariables false
set_option linter.unusedSimpArgs false
namespace Go.Proofs.Ytknddjjgidaedaa.Pure
open Go Go.Proofs.XC Go.Proofs.Ytknddjjgidaedaa

abbrev E0 : ByteArray := ⟨#[]⟩
/-! ### One call, both ways -/
def R (n : T55) : T46 := ⟨n.most, n.lost, n.l⟩
structure Inv (n : T55) (b : Nat) : Prop where
  m1 : 1 ≤ n.most
  m2 : n.most ≤ 4096
  l : (n.l.length : Int) ≤ n.most
  b1 : 0 ≤ n.lost
  b2 : n.lost ≤ (b : Int)
  d : ∀ g ∈ n.l, g.Data.size ≤ 40
theorem Inv.up {n : T55} {b c : Nat} (h : Inv n b) (hc : b ≤ c) : Inv n c := ⟨h.m1, h.m2, h.l, h.b1, by have := h.b2; omega, h.d⟩
def putF (n : T55) (g : T28) : Bool × T55 := if g.Data = E0 ∨ (n.l.length : Int) ≥ n.most then (false, n) else (true, ⟨n.most, n.lost, n.l ++ [g]⟩)
theorem put_eq (n : T55) (g : T28) {b : Nat} (h : Inv n b) (hg : g.Data.size ≤ 40) : net_Net_put n g = some (putF n g) := by
  have := h.l; have := h.m2
  unfold net_Net_put net_Net_put_j1 net_Net_put_j2
  rw [cS, cD, cD]
  by_cases c1 : g.Data = E0
  · rw [if_pos c1, show putF n g = (false, n) from if_pos (.inl c1)]
  · by_cases c2 : (n.l.length : Int) ≥ n.most
    · rw [if_neg c1, if_neg (by omega), if_pos c2, show putF n g = (false, n) from if_pos (.inr c2)]
    · rw [if_neg c1, if_neg (by omega), if_neg c2, if_pos (by simp; omega), show putF n g = (true, ⟨n.most, n.lost, n.l ++ [g]⟩) from if_neg (fun h => h.elim c1 c2)]
theorem rput_eq (n : T55) (g : T28) {b : Nat} (h : Inv n b) (hg : g.Data.size ≤ 40) : tidewrackref25_put (R n) g = some (R (putF n g).2, (putF n g).1) := by
  have := h.l; have := h.m2
  unfold tidewrackref25_put tidewrackref25_put_j3 tidewrackref25_put_j1 tidewrackref25_put_j2 R
  simp only
  rw [cS, cD]
  by_cases c1 : g.Data = E0
  · rw [if_pos c1, show putF n g = (false, n) from if_pos (.inl c1)]; rfl
  · by_cases c2 : (n.l.length : Int) ≥ n.most
    · rw [if_neg c1, if_neg (by omega), show putF n g = (false, n) from if_pos (.inr c2), decide_eq_true c2]; rfl
    · rw [if_neg c1, if_neg (by omega), show putF n g = (true, ⟨n.most, n.lost, n.l ++ [g]⟩) from if_neg (fun h => h.elim c1 c2), decide_eq_false c2, cond_false, if_pos (by simp; omega), if_pos (by simp; omega)]
      simp
theorem put_inv (n : T55) (g : T28) {b : Nat} (h : Inv n b) (hg : g.Data.size ≤ 40) : Inv (putF n g).2 b ∧ (putF n g).2.lost = n.lost ∧ (putF n g).2.most = n.most ∧ (putF n g).2.l.length = n.l.length + (if (putF n g).1 = true then 1 else 0) := by
  unfold putF
  by_cases c : g.Data = E0 ∨ (n.l.length : Int) ≥ n.most
  · rw [if_pos c]; exact ⟨h, rfl, rfl, by simp⟩
  · rw [if_neg c]
    refine ⟨⟨h.m1, h.m2, ?_, h.b1, h.b2, fun x hx => ?_⟩, rfl, rfl, by simp⟩
    · have : ¬ (n.l.length : Int) ≥ n.most := fun h => c (.inr h)
      simp only [List.length_append, List.length_cons, List.length_nil]; omega
    · rcases List.mem_append.1 hx with hx | hx
      · exact h.d x hx
      · simp only [List.mem_singleton] at hx; subst hx; exact hg
def bitN (b : Bool) : Nat := if b = true then 1 else 0
def addLost (n : T55) (k : Nat) : T55 := ⟨n.most, n.lost + (k : Int), n.l⟩
/-- Sends, one after another; how many were sent. -/
def sendF (n : T55) : List T28 → Nat × T55
  | [] => (0, n)
  | g :: l => let r := sendF (putF n g).2 l; (bitN (putF n g).1 + r.1, r.2)
theorem send_inv {b : Nat} : ∀ (l : List T28) (n : T55), Inv n b → (∀ g ∈ l, g.Data.size ≤ 40) → Inv (sendF n l).2 b ∧ (sendF n l).2.lost = n.lost ∧ (sendF n l).2.most = n.most ∧ (sendF n l).2.l.length = n.l.length + (sendF n l).1 ∧ (sendF n l).1 ≤ l.length
  | [], n, h, _ => ⟨h, rfl, rfl, rfl, by simp [sendF]⟩
  | g :: l, n, h, hg => by
    obtain ⟨h1, h2, h3, h4⟩ := put_inv n g h (hg g (by simp))
    obtain ⟨g1, g2, g3, g4, g5⟩ := send_inv l (putF n g).2 h1 (fun x hx => hg x (by simp [hx]))
    refine ⟨g1, g2.trans h2, g3.trans h3, ?_, ?_⟩
    · simp only [sendF]; rw [g4, h4]; unfold bitN; omega
    · simp only [sendF, List.length_cons]; unfold bitN; split <;> omega
theorem send_loop (p : List T28) (hp : p.length ≤ 1000) (hg : ∀ g ∈ p, g.Data.size ≤ 40) : ∀ (k i c : Nat) (n : T55) (b : Nat), p.length < k + i → i ≤ p.length → c ≤ i → Inv n b → net_Net_Send_l2 p k n.most n.lost n.l c i =
    some (((c + (sendF n (p.drop i)).1 : Nat) : Int), ⟨(sendF n (p.drop i)).2.most, IntKind.wrap .i64 ((sendF n (p.drop i)).2.lost + IntKind.wrap .i64 ((p.length : Int) - ((c + (sendF n (p.drop i)).1 : Nat) : Int))), (sendF n (p.drop i)).2.l⟩)
  | 0, i, c, n, b, h1, h2, h3, h => by omega
  | k + 1, i, c, n, b, h1, h2, h3, h => by
    have ih := send_loop p hp hg k
    unfold net_Net_Send_l2
    rw [cD]
    by_cases hi : i < p.length
    · have hw : IntKind.wrap .i64 ((i : Int) + 1) = ((i + 1 : Nat) : Int) := by rw [w64 (by omega) (by omega)]; omega
      have hwc : IntKind.wrap .i64 ((c : Int) + 1) = ((c + 1 : Nat) : Int) := by rw [w64 (by omega) (by omega)]; omega
      have hgi := hg _ (List.getElem_mem hi)
      rw [if_pos (by omega), if_pos (by omega), rdD_get _ _ hi, show (⟨n.most, n.lost, n.l⟩ : T55) = n from rfl, put_eq n _ h hgi, bS, hw, hwc, List.drop_eq_getElem_cons hi]
      have hI := (put_inv n _ h hgi).1
      simp only [sendF]
      cases hb : (putF n p[i]).1 with
      | true => rw [cond_true, ih (i + 1) (c + 1) _ b (by omega) (by omega) (by omega) hI]; simp only [bitN, if_true, Nat.add_assoc]
      | false => rw [cond_false, ih (i + 1) c _ b (by omega) (by omega) (by omega) hI]; simp [bitN]
    · rw [if_neg (by omega), List.drop_eq_nil_of_le (by omega)]
      simp [net_Net_Send_j1, sendF]
theorem send_eq (K : Nat) (n : T55) (p : List T28) {b : Nat} (hp : p.length ≤ 1000) (hK : p.length < K) (hg : ∀ g ∈ p, g.Data.size ≤ 40) (h : Inv n b) (hb : b ≤ 1000000) :
    net_Net_Send K n p = some (((sendF n p).1 : Int), addLost (sendF n p).2 (p.length - (sendF n p).1)) := by
  have hl := send_loop p hp hg K 0 0 n b (by omega) (by omega) (by omega) h
  rw [show ((0 : Nat) : Int) = 0 from rfl, List.drop_zero] at hl
  obtain ⟨g1, g2, g3, g4, g5⟩ := send_inv p n h hg
  have := g1.b1; have := g1.b2
  unfold net_Net_Send
  rw [hl, Nat.zero_add]
  unfold addLost
  rw [w64 (x := (p.length : Int) - ((sendF n p).1 : Int)) (by omega) (by omega), w64 (by omega) (by omega)]
  congr 4
  omega
theorem addLost_inv {n : T55} {b : Nat} (h : Inv n b) (k : Nat) : Inv (addLost n k) (b + k) := ⟨h.m1, h.m2, h.l, by have := h.b1; show 0 ≤ n.lost + (k : Int); omega, by have := h.b2; show n.lost + (k : Int) ≤ _; omega, h.d⟩
theorem putF_addLost (n : T55) (g : T28) (k : Nat) : putF (addLost n k) g = ((putF n g).1, addLost (putF n g).2 k) := by
  unfold putF addLost
  simp only
  split <;> rfl
theorem rsend_eq (n : T55) (g : T28) {b : Nat} (h : Inv n b) (hg : g.Data.size ≤ 40) (hb : b ≤ 1000000) : tidewrackref25_Send (R n) g = some (R (addLost (putF n g).2 (1 - bitN (putF n g).1)), (putF n g).1) := by
  unfold tidewrackref25_Send
  obtain ⟨h1, h2, h3, h4⟩ := put_inv n g h hg
  have := h1.b1; have := h1.b2
  rw [rput_eq n g h hg, bS]
  simp only
  cases hb : (putF n g).1 with
  | true => simp [bitN, R, addLost]
  | false =>
    simp only [bitN, R, addLost, Bool.not_false, cond_true]
    rw [w64 (by omega) (by omega)]; rfl
theorem is_eq (n : T55) (i : Int) : net_Net_is n i = some (decide (0 ≤ i ∧ i < (n.l.length : Int))) := by
  unfold net_Net_is
  rw [cD]
  by_cases c : i ≥ 0
  · rw [if_pos c]; congr 1; rw [decide_eq_decide]; omega
  · rw [if_neg c]; congr 1; symm; exact decide_eq_false (by omega)
def takeF (n : T55) (i : Int) : T28 × Bool × T55 := if 0 ≤ i ∧ i < (n.l.length : Int) then (rdD zT28 n.l i, true, ⟨n.most, n.lost, n.l.take i.toNat ++ n.l.drop (i.toNat + 1)⟩) else (⟨0, 0, E0⟩, false, n)
theorem take_eq (n : T55) (i : Int) {b : Nat} (h : Inv n b) : net_Net_Take n i = some (takeF n i) := by
  have := h.l; have := h.m2
  unfold net_Net_Take takeF
  rw [is_eq, bS]
  by_cases c : 0 ≤ i ∧ i < (n.l.length : Int)
  · have hw : IntKind.wrap .i64 (i + 1) = i + 1 := w64 (by omega) (by omega)
    rw [decide_eq_true c, Bool.not_true, cond_false, if_pos c, hw]
    unfold net_Gram
    rw [if_pos (by omega), if_pos (by omega), if_pos (by omega), cE, if_neg (by omega), if_pos (by omega), if_pos (by omega), bS, if_pos c, List.take_length]
    rw [show (i + 1).toNat = i.toNat + 1 by omega]
  · rw [decide_eq_false c, Bool.not_false, cond_true, if_neg c]
theorem rtake_eq (n : T55) (i : Int) {b : Nat} (h : Inv n b) : tidewrackref25_Take (R n) i = some (R (takeF n i).2.2, (takeF n i).1, (takeF n i).2.1) := by
  have := h.l; have := h.m2
  unfold tidewrackref25_Take tidewrackref25_Take_j2 tidewrackref25_Take_j1 R
  simp only
  rw [cD]
  by_cases c : 0 ≤ i ∧ i < (n.l.length : Int)
  · have hw : IntKind.wrap .i64 (i + 1) = i + 1 := w64 (by omega) (by omega)
    rw [if_neg (by omega), decide_eq_false (by omega), cond_false, if_pos c, if_pos c.1, if_pos (by omega), hw, if_pos (by omega), if_pos (by omega), if_pos (by simp; omega), if_pos (by simp; omega), show takeF n i = (rdD zT28 n.l i, true, ⟨n.most, n.lost, n.l.take i.toNat ++ n.l.drop (i.toNat + 1)⟩) from if_pos c, List.take_length]
    simp only [List.nil_append, List.drop_zero]
    rw [show (i + 1).toNat = i.toNat + 1 by omega]
  · rw [show takeF n i = (⟨0, 0, E0⟩, false, n) from if_neg c]
    by_cases c1 : i < 0
    · rw [if_pos c1]; rfl
    · rw [if_neg c1, decide_eq_true (by omega)]; rfl
theorem take_inv (n : T55) (i : Int) {b : Nat} (h : Inv n b) : Inv (takeF n i).2.2 b ∧ (takeF n i).2.2.lost = n.lost ∧ (takeF n i).2.2.most = n.most ∧ (takeF n i).2.2.l.length + bitN (takeF n i).2.1 = n.l.length := by
  unfold takeF
  by_cases c : 0 ≤ i ∧ i < (n.l.length : Int)
  · rw [if_pos c]
    have := h.l
    refine ⟨⟨h.m1, h.m2, ?_, h.b1, h.b2, fun g hg => ?_⟩, rfl, rfl, ?_⟩
    · simp only [List.length_append, List.length_take, List.length_drop]; omega
    · rcases List.mem_append.1 hg with hg | hg
      · exact h.d g (List.mem_of_mem_take hg)
      · exact h.d g (List.mem_of_mem_drop hg)
    · simp only [List.length_append, List.length_take, List.length_drop, bitN]; simp; omega
  · rw [if_neg c]; exact ⟨h, rfl, rfl, by simp [bitN]⟩
theorem rd_mem {n : T55} {i : Int} (c : 0 ≤ i ∧ i < (n.l.length : Int)) : rdD zT28 n.l i ∈ n.l := by
  rw [rdD_at zT28 n.l (i := i.toNat) (by omega) (by omega)]
  exact List.getElem_mem _
theorem turn_both (K : Nat) (hK : 40 ≤ K) (s : ByteArray) (p m : Int) (hs : s.size ≤ 40) (hm : 0 ≤ m ∧ m ≤ 4294967295) : ∃ u, sum_Turn K s p m = some u ∧ tidewrackref02_Turn K s p m = some u ∧ u.size = s.size := by
  obtain ⟨m, rfl⟩ : ∃ k : Nat, m = (k : Int) := ⟨m.toNat, by omega⟩
  have hm2 : m < 2 ^ 32 := by omega
  obtain ⟨u, eu, zu, nu⟩ := turn_eq K (by omega) s p m (by omega) hm2
  obtain ⟨v, ev, zv, nv⟩ := rturn_eq K (by omega) s p m (by omega) hm2
  have huv : u = v := text_inj (by omega) (by rw [nu, nv])
  exact ⟨u, eu, huv ▸ ev, zu⟩
theorem turnN (K : Nat) (hK : 40 ≤ K) (n : T55) (i p m : Int) {b : Nat} (h : Inv n b) (hm : 0 ≤ m ∧ m ≤ 4294967295) : ∃ r n', net_Net_Turn K n i p m = some (r, n') ∧ tidewrackref25_Turn K (R n) i p m = some (R n', r) ∧ Inv n' b ∧ n'.lost = n.lost ∧ n'.l.length = n.l.length ∧ n'.most = n.most := by
  have := h.l; have := h.m2
  unfold net_Net_Turn tidewrackref25_Turn tidewrackref25_Turn_j2 tidewrackref25_Turn_j1 R net_Net_Turn_j1
  simp only [List.nil_append]
  rw [is_eq, bS, cD]
  by_cases c : 0 ≤ i ∧ i < (n.l.length : Int)
  · have hsz := h.d _ (rd_mem c)
    obtain ⟨u, e1, e2, e3⟩ := turn_both K hK _ p m hsz hm
    rw [decide_eq_true c, Bool.not_true, cond_false, if_pos c, e1, bS, if_neg (by omega), decide_eq_false (by omega), cond_false, if_pos (by simp; omega), if_pos c, e2, bS]
    refine ⟨_, _, rfl, rfl, ⟨h.m1, h.m2, by rw [List.length_set]; exact h.l, h.b1, h.b2, fun g hg => ?_⟩, rfl, by simp, rfl⟩
    rcases List.mem_or_eq_of_mem_set hg with hg | rfl
    · exact h.d g hg
    · simp only; omega
  · rw [decide_eq_false c, Bool.not_false, cond_true]
    refine ⟨false, n, rfl, ?_, h, rfl, rfl, rfl⟩
    by_cases c1 : i < 0
    · rw [if_pos c1]; rfl
    · rw [if_neg c1, decide_eq_true (by omega)]; rfl
theorem twinN (n : T55) (i : Int) {b : Nat} (h : Inv n b) : ∃ r n', net_Net_Twin n i = some (r, n') ∧ tidewrackref25_Twin (R n) i = some (R n', r) ∧ Inv n' b ∧ n'.lost = n.lost ∧ n'.l.length = n.l.length + bitN r ∧ n'.most = n.most := by
  unfold net_Net_Twin tidewrackref25_Twin tidewrackref25_Twin_j2 tidewrackref25_Twin_j1
  rw [is_eq, bS, cD, cD]
  simp only [show (R n).L = n.l from rfl]
  by_cases c : 0 ≤ i ∧ i < (n.l.length : Int)
  · have hsz := h.d _ (rd_mem c)
    obtain ⟨h1, h2, h3, h4⟩ := put_inv n _ h hsz
    rw [if_pos c, if_pos c, put_eq n _ h hsz, bS, if_neg (by omega), decide_eq_false (by omega), cond_false, if_pos c, rput_eq n _ h hsz, bS]
    exact ⟨_, _, rfl, rfl, h1, h2, h4, h3⟩
  · rw [if_neg c]
    refine ⟨false, n, rfl, ?_, h, rfl, by simp [bitN], rfl⟩
    by_cases c1 : i < 0
    · rw [if_pos c1]; rfl
    · rw [if_neg c1, decide_eq_true (by omega)]; rfl
theorem loseN (n : T55) (i : Int) {b : Nat} (h : Inv n b) (hb : b ≤ 1000000) : ∃ r n', net_Net_Lose n i = some (r, n') ∧ tidewrackref25_Lose (R n) i = some (R n', r) ∧ Inv n' (b + 1) ∧ n'.lost + n'.l.length = n.lost + n.l.length ∧ n'.most = n.most := by
  unfold net_Net_Lose tidewrackref25_Lose
  rw [take_eq n i h, rtake_eq n i h, bS, bS]
  obtain ⟨h1, h2, h2m, h3⟩ := take_inv n i h
  have := h1.b1; have := h1.b2
  cases hc : (takeF n i).2.1 with
  | true =>
    rw [hc] at h3
    simp only [hc, cond_true, R]
    rw [w64 (by omega) (by omega)]
    exact ⟨_, _, rfl, rfl, ⟨h1.m1, h1.m2, h1.l, by simp only; omega, by simp only; omega, h1.d⟩, by simp only [bitN, if_true] at h3; simp only; omega, h2m⟩
  | false =>
    rw [hc] at h3
    simp only [hc, cond_false]
    exact ⟨_, _, rfl, rfl, h1.up (by omega), by simp [bitN] at h3; omega, h2m⟩
theorem bit_eq (b : Bool) : tidewracklaw25_bit b = some ((bitN b : Nat) : Int) := by cases b <;> rfl
def cutF (s : ByteArray) (n : Nat) : ByteArray := if s.size > n then s.extract 0 n else s
theorem cut_eq (s : ByteArray) (n : Nat) : tidewracklaw01_Cut s (n : Int) = some (cutF s n) := by
  simp only [tidewracklaw01_Cut, cutF, cD]
  by_cases h : s.size > n
  · rw [if_pos (by omega), if_pos (by omega), if_pos (by omega), if_pos h]; simp
  · rw [if_neg (by omega), if_neg h]
theorem cut_size (s : ByteArray) (n : Nat) : (cutF s n).size ≤ n := by
  unfold cutF; split
  · simp [ByteArray.size_extract]; omega
  · omega
theorem eqT_refl (x : T28) : eqT28 x x = true := by simp [eqT28]
theorem doN (K : Nat) (hK : 100 ≤ K) (n : T55) (a : T40) {b : Nat} (h : Inv n b) (hb : b ≤ 100000) (hm : 0 ≤ a.Mask ∧ a.Mask ≤ 4294967295) : ∃ n', tidewracklaw25_do K n (R n) a = some (R n', true, n') ∧ Inv n' (b + 2) ∧ n'.most = n.most := by
  unfold tidewracklaw25_do
  rw [cE]
  by_cases k0 : a.Kind = 0
  · rw [if_pos k0, show (40 : Int) = ((40 : Nat) : Int) from rfl, cut_eq, bS]
    have hz := cut_size a.Gram_Data 40
    generalize cutF a.Gram_Data 40 = s at hz ⊢
    have hg : ∀ g ∈ [(⟨a.Gram_From, a.Gram_To, s⟩ : T28), ⟨a.Gram_To, a.Gram_From, s⟩], g.Data.size ≤ 40 := by
      intro g hg
      simp only [List.mem_cons, List.not_mem_nil, or_false] at hg
      rcases hg with rfl | rfl <;> exact hz
    obtain ⟨h1, h2, h3, h4⟩ := put_inv n ⟨a.Gram_From, a.Gram_To, s⟩ h hz
    have hA := addLost_inv h1 (1 - bitN (putF n ⟨a.Gram_From, a.Gram_To, s⟩).1)
    have hA2 : Inv (addLost (putF n ⟨a.Gram_From, a.Gram_To, s⟩).2 (1 - bitN (putF n ⟨a.Gram_From, a.Gram_To, s⟩).1)) (b + 1) := hA.up (by omega)
    rw [rsend_eq n _ h hz (by omega), bS]
    simp only
    rw [rsend_eq _ _ hA2 hz (by omega), bS]
    obtain ⟨g1, g2, g3, g4, g5⟩ := send_inv _ n h hg
    rw [send_eq K n _ (by simp) (by simp; omega) hg h (by omega), bS, bit_eq, bS, bit_eq, bS, putF_addLost]
    have hAf := addLost_inv g1 (2 - (sendF n [(⟨a.Gram_From, a.Gram_To, s⟩ : T28), ⟨a.Gram_To, a.Gram_From, s⟩]).1)
    simp only [sendF, List.length_cons, List.length_nil, Nat.add_zero] at hAf g3 ⊢
    generalize hp1 : putF n ⟨a.Gram_From, a.Gram_To, s⟩ = p1 at *
    generalize hp2 : putF p1.2 ⟨a.Gram_To, a.Gram_From, s⟩ = p2 at *
    refine ⟨addLost p2.2 (0 + 1 + 1 - (bitN p1.1 + bitN p2.1)), ?_, hAf.up (by omega), g3⟩
    have e1 : bitN p1.1 ≤ 1 := by unfold bitN; split <;> omega
    have e2 : bitN p2.1 ≤ 1 := by unfold bitN; split <;> omega
    have e3 : addLost (addLost p2.2 (1 - bitN p1.1)) (1 - bitN p2.1) = addLost p2.2 (0 + 1 + 1 - (bitN p1.1 + bitN p2.1)) := by
      unfold addLost; simp only; congr 1; omega
    rw [e3, w64 (by omega) (by omega)]
    have : (((bitN p1.1 + bitN p2.1 : Nat) : Int) == ((bitN p1.1 : Nat) : Int) + ((bitN p2.1 : Nat) : Int)) = true := by rw [beq_iff_eq]; omega
    rw [this]
  · rw [if_neg k0, cE]
    by_cases k1 : a.Kind = 1
    · rw [if_pos k1, rtake_eq n _ h, bS, take_eq n _ h, bS]
      simp only [eqT_refl, cond_true]
      exact ⟨_, by simp, (take_inv n a.I h).1.up (by omega), (take_inv n a.I h).2.2.1⟩
    · rw [if_neg k1, cE]
      by_cases k2 : a.Kind = 2
      · obtain ⟨r, n', e1, e2, e3, e4⟩ := loseN n a.I h (by omega)
        rw [if_pos k2, e2, bS, e1, bS]
        exact ⟨n', by simp, e3.up (by omega), e4.2⟩
      · rw [if_neg k2, cE]
        by_cases k3 : a.Kind = 3
        · obtain ⟨r, n', e1, e2, e3, e4⟩ := twinN n a.I h
          rw [if_pos k3, e2, bS, e1, bS]
          exact ⟨n', by simp, e3.up (by omega), e4.2.2⟩
        · obtain ⟨r, n', e1, e2, e3, e4⟩ := turnN K (by omega) n a.I a.At a.Mask h hm
          rw [if_neg k3, e2, bS, e1, bS]
          exact ⟨n', by simp, e3.up (by omega), e4.2.2⟩
/-! ### Is a net the document's -/
def forF (l : List T28) (to : Int) : Nat → List Int
  | 0 => []
  | i + 1 => forF l to i ++ (if (l.getD i zT28).To = to then [(i : Int)] else [])
theorem forF_succ (l : List T28) (to : Int) (i : Nat) : forF l to (i + 1) = forF l to i ++ (if (l.getD i zT28).To = to then [(i : Int)] else []) := rfl
theorem for_len (l : List T28) (to : Int) : ∀ i, (forF l to i).length ≤ i
  | 0 => by simp [forF]
  | i + 1 => by have := for_len l to i; simp only [forF, List.length_append]; split <;> simp <;> omega
theorem for_loop (n : T55) (to : Int) (hl : n.l.length ≤ 5000) : ∀ (k i : Nat), n.l.length < k + i → i ≤ n.l.length → net_Net_For_l2 n to k (forF n.l to i) i = some (forF n.l to n.l.length)
  | 0, i, h1, h2 => by omega
  | k + 1, i, h1, h2 => by
    have ih := for_loop n to hl k
    unfold net_Net_For_l2
    rw [cD]
    by_cases hi : i < n.l.length
    · have hw : IntKind.wrap .i64 ((i : Int) + 1) = ((i + 1 : Nat) : Int) := by rw [w64 (by omega) (by omega)]; omega
      have hf := for_len n.l to i
      have ih1 := ih (i + 1) (by omega) (by omega)
      rw [forF_succ] at ih1
      rw [if_pos (by omega), if_pos (by omega), rdD_nat, cE, hw]
      by_cases c : (n.l.getD i zT28).To = to
      · rw [if_pos c] at ih1
        rw [if_pos c, if_pos (by simp; omega)]; exact ih1
      · rw [if_neg c, List.append_nil] at ih1
        rw [if_neg c]; exact ih1
    · have : i = n.l.length := by omega
      subst this
      rw [if_neg (by omega)]; rfl
theorem for_eq (K : Nat) (n : T55) (to : Int) (hl : n.l.length ≤ 5000) (hK : n.l.length < K) : net_Net_For K n to = some (forF n.l to n.l.length) := by
  have := for_loop n to hl K 0 (by omega) (by omega)
  unfold net_Net_For
  simpa [forF] using this
theorem same_loop (p : List Int) (hp : p.length ≤ 5000) : ∀ (k i : Nat), p.length < k + i → i ≤ p.length → tidewracklaw01_Same_l2 p p k i = some true
  | 0, i, h1, h2 => by omega
  | k + 1, i, h1, h2 => by
    have ih := same_loop p hp k
    unfold tidewracklaw01_Same_l2
    rw [cD]
    by_cases hi : i < p.length
    · have hw : IntKind.wrap .i64 ((i : Int) + 1) = ((i + 1 : Nat) : Int) := by rw [w64 (by omega) (by omega)]; omega
      rw [if_pos (by omega), if_pos (by omega), if_pos (by omega), cN, if_pos rfl, hw, ih (i + 1) (by omega) (by omega)]
    · rw [if_neg (by omega)]; rfl
theorem same_refl (K : Nat) (p : List Int) (hp : p.length ≤ 5000) (hK : p.length < K) : tidewracklaw01_Same K p p = some true := by
  unfold tidewracklaw01_Same
  rw [cN, if_pos rfl]
  exact same_loop p hp K 0 (by omega) (by omega)
theorem is6 (K : Nat) (hK : 6000 ≤ K) (n : T55) (hl : n.l.length ≤ 5000) (y : Nat) (hy : y < n.l.length) (lp : Int → Option Bool) : ∀ (k i : Nat), n.l.length < k + i → i ≤ n.l.length →
    tidewracklaw25_Is_l6 K n (R n) n.l y lp k (forF n.l (n.l.getD y zT28).To i) i = lp ((y + 1 : Nat) : Int)
  | 0, i, h1, h2 => by omega
  | k + 1, i, h1, h2 => by
    have ih := is6 K hK n hl y hy lp k
    unfold tidewracklaw25_Is_l6
    simp only [show (R n).L = n.l from rfl]
    rw [cD]
    by_cases hi : i < n.l.length
    · have hw : IntKind.wrap .i64 ((i : Int) + 1) = ((i + 1 : Nat) : Int) := by rw [w64 (by omega) (by omega)]; omega
      have hf := for_len n.l (n.l.getD y zT28).To i
      have ih1 := ih (i + 1) (by omega) (by omega)
      rw [forF_succ] at ih1
      rw [if_pos (by omega), if_pos (by omega), rdD_nat, rdD_nat, cE, hw]
      by_cases c : (n.l.getD i zT28).To = (n.l.getD y zT28).To
      · rw [if_pos c] at ih1
        rw [if_pos c, if_pos (by simp only [List.length_append, List.length_cons, List.length_nil]; omega)]; exact ih1
      · rw [if_neg c, List.append_nil] at ih1
        rw [if_neg c]; exact ih1
    · have : i = n.l.length := by omega
      subst this
      rw [if_neg (by omega)]
      unfold tidewracklaw25_Is_j5 tidewracklaw25_Is_j4
      simp only [show (R n).L = n.l from rfl]
      have hf := for_len n.l (n.l.getD y zT28).To n.l.length
      rw [if_pos (by omega), eqT_refl, Bool.not_true, cond_false, rdD_nat, for_eq K n _ hl (by omega), bS, same_refl K _ (by omega) (by omega), bS, Bool.not_true, cond_false, w64 (by omega) (by omega)]
      rfl
theorem is3 (K : Nat) (hK : 6000 ≤ K) (n : T55) (hl : n.l.length ≤ 5000) : ∀ (k i : Nat), n.l.length < k + i → i ≤ n.l.length → tidewracklaw25_Is_l3 K n (R n) n.l k i = some true
  | 0, i, h1, h2 => by omega
  | k + 1, i, h1, h2 => by
    have ih := is3 K hK n hl k
    unfold tidewracklaw25_Is_l3
    simp only [show (R n).L = n.l from rfl]
    rw [cD]
    by_cases hi : i < n.l.length
    · have h6 := is6 K hK n hl i hi (tidewracklaw25_Is_l3 K n (R n) n.l k) K 0 (by omega) (by omega)
      rw [show ((0 : Nat) : Int) = 0 from rfl] at h6
      rw [if_pos (by omega), if_pos (by omega)]
      simp only [forF] at h6
      rw [h6]
      exact ih (i + 1) (by omega) (by omega)
    · rw [if_neg (by omega)]; rfl
theorem Is_eq (K : Nat) (hK : 6000 ≤ K) (n : T55) (hl : n.l.length ≤ 5000) : tidewracklaw25_Is K n (R n) = some true := by
  unfold tidewracklaw25_Is net_Net_All net_Gram' net_Net_Len net_Net_Lost
  rw [if_pos (by simp; omega), bS, bS, List.nil_append, cN, if_pos (show (n.l.length : Int) = ((R n).L.length : Int) from rfl), bS, cN, if_pos rfl, bS, cN, if_pos (show n.lost = (R n).Lost from rfl)]
  unfold tidewracklaw25_Is_j1
  exact is3 K hK n hl K 0 (by omega) (by omega)
theorem new_inv (m : Int) : Inv ⟨mxI 1 (mnI m 4096), 0, []⟩ 0 := by
  have h1 : 1 ≤ mxI 1 (mnI m 4096) ∧ mxI 1 (mnI m 4096) ≤ 4096 := by unfold mxI mnI; (repeat' split) <;> omega
  exact ⟨h1.1, h1.2, by show ((0 : Nat) : Int) ≤ mxI 1 (mnI m 4096); omega, by show (0 : Int) ≤ 0; omega, by show (0 : Int) ≤ ((0 : Nat) : Int); omega, fun g hg => absurd hg (by simp)⟩
theorem awake_eq (K : Nat) (hK : 100 ≤ K) : tidewracklaw25_awake K = some true := by
  unfold tidewracklaw25_awake net_New
  have hi := new_inv 1
  rw [show mxI 1 (mnI 1 4096) = 1 from by decide] at hi ⊢
  have hg : ∀ g ∈ [(⟨1, 2, (⟨#[97]⟩ : ByteArray)⟩ : T28), (⟨0, 0, (⟨#[98]⟩ : ByteArray)⟩ : T28)], g.Data.size ≤ 40 := by
    intro g hg
    simp only [List.mem_cons, List.not_mem_nil, or_false] at hg
    rcases hg with rfl | rfl <;> decide
  have hne : ∀ c : UInt8, (⟨#[c]⟩ : ByteArray) ≠ E0 := fun c h => by
    have := congrArg ByteArray.size h
    simp [ByteArray.size] at this
  have hs : sendF ⟨1, 0, []⟩ [(⟨1, 2, (⟨#[97]⟩ : ByteArray)⟩ : T28), (⟨0, 0, (⟨#[98]⟩ : ByteArray)⟩ : T28)] = (1, ⟨1, 0, [⟨1, 2, ⟨#[97]⟩⟩]⟩) := by
    simp [sendF, putF, bitN, hne]
  rw [bS, send_eq K _ _ (by simp) (by simp; omega) hg hi (by omega), bS, hs]
  simp only
  have hi2 : Inv (addLost ⟨1, 0, [⟨1, 2, ⟨#[97]⟩⟩]⟩ 1) 1 := ⟨by show (1 : Int) ≤ 1; decide, by show (1 : Int) ≤ 4096; decide, by show ((1 : Nat) : Int) ≤ 1; decide, by show (0 : Int) ≤ 0 + ((1 : Nat) : Int); decide, by show (0 : Int) + ((1 : Nat) : Int) ≤ ((1 : Nat) : Int); decide, fun g hg => by simp only [addLost, List.mem_singleton] at hg; subst hg; decide⟩
  rw [show ([(⟨1, 2, (⟨#[97]⟩ : ByteArray)⟩ : T28), (⟨0, 0, (⟨#[98]⟩ : ByteArray)⟩ : T28)]).length - 1 = 1 from rfl, take_eq _ 0 hi2, bS]
  have ht : takeF (addLost ⟨1, 0, [⟨1, 2, ⟨#[97]⟩⟩]⟩ 1) 0 = (⟨1, 2, ⟨#[97]⟩⟩, true, ⟨1, 1, []⟩) := by
    simp [takeF, addLost, rdD]
  rw [ht]
  unfold net_Net_Lost net_Net_Len
  simp only
  rw [cE, if_pos (by decide), bS, cE, if_pos (by decide), cond_true, eqT_refl, cond_true, bS]
  rfl
/-! ### NetPlays -/
theorem masks {p : List T40} (w : ∀ y ∈ p, WF.wfT40 y) (i : Nat) (h : i < p.length) : 0 ≤ p[i].Mask ∧ p[i].Mask ≤ 4294967295 := wfu32 ((w _ (List.getElem_mem h)).2.2.2.1)
theorem plays4 (K : Nat) (hK : 6000 ≤ K) (p2 : List T40) (w2 : ∀ y ∈ p2, WF.wfT40 y) (n : T55) (hn : n.l.length ≤ 5000) : ∀ (k i b : Nat) (c : T55), 15 < k + i → i ≤ 15 → Inv c b → b ≤ 1000 + 2 * i → tidewracklaw25_NetPlays_l4 K p2 n.most n.lost n.l (R n).Most (R n).Lost (R n).L k c.most c.lost c.l (R c).Most (R c).Lost (R c).L i = some true
  | 0, i, b, c, h1, h2, h3, h4 => by omega
  | k + 1, i, b, c, h1, h2, h3, h4 => by
    have ih := plays4 K hK p2 w2 n hn k
    have fin : tidewracklaw25_NetPlays_j3 K n.most n.lost n.l (R n).Most (R n).Lost (R n).L c.most c.lost c.l (R c).Most (R c).Lost (R c).L = some true := by
      unfold tidewracklaw25_NetPlays_j3
      have := h3.l; have := h3.m2
      rw [show (⟨n.most, n.lost, n.l⟩ : T55) = n from rfl, show (⟨(R n).Most, (R n).Lost, (R n).L⟩ : T46) = R n from rfl, Is_eq K hK n hn, bS, cond_true, show (⟨c.most, c.lost, c.l⟩ : T55) = c from rfl, show (⟨(R c).Most, (R c).Lost, (R c).L⟩ : T46) = R c from rfl, Is_eq K hK c (by omega), bS]
    unfold tidewracklaw25_NetPlays_l4
    rw [cD, cD, fin]
    by_cases c1 : i < p2.length
    · by_cases c2 : i < 15
      · have hw : IntKind.wrap .i64 ((i : Int) + 1) = ((i + 1 : Nat) : Int) := by rw [w64 (by omega) (by omega)]; omega
        obtain ⟨n', e1, e2, e2m⟩ := doN K (by omega) c p2[i] h3 (by omega) (masks w2 i c1)
        rw [if_pos (by omega), if_pos (by omega)]
        unfold tidewracklaw25_NetPlays_j5
        rw [if_pos (by omega), rdD_get _ _ c1, show (⟨c.most, c.lost, c.l⟩ : T55) = c from rfl, show (⟨(R c).Most, (R c).Lost, (R c).L⟩ : T46) = R c from rfl, e1, bS]
        simp only [Bool.not_true, cond_false]
        rw [hw]
        exact ih (i + 1) (b + 2) n' (by omega) (by omega) e2 (by omega)
      · rw [if_pos (by omega), if_neg (by omega)]
    · rw [if_neg (by omega)]
theorem plays6 (K : Nat) (hK : 6000 ≤ K) (p0 : Int) (p1 p2 : List T40) (w1 : ∀ y ∈ p1, WF.wfT40 y) (w2 : ∀ y ∈ p2, WF.wfT40 y) : ∀ (k i : Nat) (c : T55), 30 < k + i → i ≤ 30 → Inv c (2 * i) → c.most = mxI 1 (mnI p0 4096) → tidewracklaw25_NetPlays_l6 K p0 p1 p2 k c.most c.lost c.l (R c).Most (R c).Lost (R c).L i = some true
  | 0, i, c, h1, h2, h3, h4 => by omega
  | k + 1, i, c, h1, h2, h3, h4 => by
    have ih := plays6 K hK p0 p1 p2 w1 w2 k
    have hl := h3.l
    have hm := h3.m2
    have fin : tidewracklaw25_NetPlays_j1 K p2 c.most c.lost c.l (R c).Most (R c).Lost (R c).L = some true := by
      unfold tidewracklaw25_NetPlays_j1 tidewracklaw25_NetPlays_j2 net_Net_Clone net_Gram'
      simp only [List.nil_append]
      rw [if_pos (by simp; omega), bS, bS]
      have := plays4 K hK p2 w2 c (by omega) K 0 (2 * i) c (by omega) (by omega) h3 (by omega)
      rw [show ((0 : Nat) : Int) = 0 from rfl] at this
      exact this
    unfold tidewracklaw25_NetPlays_l6
    rw [cD, cD, fin]
    by_cases c1 : i < p1.length
    · by_cases c2 : i < 30
      · have hw : IntKind.wrap .i64 ((i : Int) + 1) = ((i + 1 : Nat) : Int) := by rw [w64 (by omega) (by omega)]; omega
        obtain ⟨n', e1, e2, e2m⟩ := doN K (by omega) c p1[i] h3 (by omega) (masks w1 i c1)
        rw [if_pos (by omega), if_pos (by omega)]
        unfold tidewracklaw25_NetPlays_j7
        have hl2 := e2.l
        rw [if_pos (by omega), rdD_get _ _ c1, show (⟨c.most, c.lost, c.l⟩ : T55) = c from rfl, show (⟨(R c).Most, (R c).Lost, (R c).L⟩ : T46) = R c from rfl, e1, bS]
        simp only [Bool.not_true, cond_false]
        unfold net_Net_Len
        rw [Is_eq K hK n' (by omega), bS, Bool.not_true, cond_false, bS, cD, if_neg (by omega), hw]
        exact ih (i + 1) n' (by omega) (by omega) (e2.up (by omega)) (by omega)
      · rw [if_pos (by omega), if_neg (by omega)]
    · rw [if_neg (by omega)]
theorem NetPlays (x0 : Int) (w0 : (Lit.int .i64 x0).wf = true) (x1 : List T40) (w1 : ∀ y ∈ x1, (WF.wfT40) y) (l1 : x1.length ≤ maxLen) (x2 : List T40) (w2 : ∀ y ∈ x2, (WF.wfT40) y) (l2 : x2.length ≤ maxLen) : ∃ K, tidewracklaw25_NetPlays K x0 x1 x2 = some true := by
  suffices h : ∀ K, 6000 ≤ K → tidewracklaw25_NetPlays K x0 x1 x2 = some true from ⟨6000, h _ (Nat.le_refl _)⟩
  intro K hK
  unfold tidewracklaw25_NetPlays net_New tidewrackref25_New
  rw [awake_eq K (by omega), bS, Bool.not_true, cond_false, bS, bS]
  exact plays6 K hK x0 x1 x2 w1 w2 K 0 ⟨mxI 1 (mnI x0 4096), 0, []⟩ (by omega) (by omega) (new_inv x0) rfl
/-! ### NetCounts -/
theorem counts_loop (K : Nat) (hK : 100 ≤ K) (p : List T40) (w : ∀ y ∈ p, WF.wfT40 y) : ∀ (k i came gone : Nat) (n : T55), 40 < k + i → i ≤ 40 → Inv n i → came ≤ i → gone ≤ i → (came : Int) = gone + n.lost + n.l.length → tidewracklaw25_NetCounts_l2 K p k n.most n.lost n.l came gone i = some true
  | 0, i, came, gone, n, h1, h2, h3, h4, h5, h6 => by omega
  | k + 1, i, came, gone, n, h1, h2, h3, h4, h5, h6 => by
    have ih := counts_loop K hK p w k
    unfold tidewracklaw25_NetCounts_l2
    rw [cD, cD]
    by_cases c1 : i < p.length
    · by_cases c2 : i < 40
      · have hw : IntKind.wrap .i64 ((i : Int) + 1) = ((i + 1 : Nat) : Int) := by rw [w64 (by omega) (by omega)]; omega
        have fin : ∀ (c g : Nat) (n' : T55), Inv n' (i + 1) → c ≤ i + 1 → g ≤ i + 1 → (c : Int) = g + n'.lost + n'.l.length → tidewracklaw25_NetCounts_j4 i (tidewracklaw25_NetCounts_l2 K p k) n'.most n'.lost n'.l c g = some true := fun c g n' a1 a2 a3 a4 => by
          unfold tidewracklaw25_NetCounts_j4 net_Net_Lost net_Net_Len
          have := a1.b1; have := a1.b2; have := a1.l; have := a1.m2
          rw [bS, bS, cN]
          simp only
          rw [w64 (x := (g : Int) + n'.lost) (by omega) (by omega), w64 (by omega) (by omega), if_pos a4, hw]
          exact ih (i + 1) c g n' (by omega) (by omega) a1 a2 a3 a4
        rw [if_pos (by omega), if_pos (by omega)]
        unfold tidewracklaw25_NetCounts_j3
        rw [if_pos (by omega), rdD_get _ _ c1]
        have hm := masks w i c1
        generalize p[i] = a at hm ⊢
        rw [cE]
        by_cases k0 : a.Kind = 0
        · rw [if_pos k0, show (30 : Int) = ((30 : Nat) : Int) from rfl, cut_eq, bS]
          have hz := cut_size a.Gram_Data 30
          have hg : ∀ g ∈ [(⟨a.Gram_From, a.Gram_To, cutF a.Gram_Data 30⟩ : T28)], g.Data.size ≤ 40 := by
            intro g hg
            simp only [List.mem_singleton] at hg
            subst hg; simp only; omega
          obtain ⟨g1, g2, g3, g4, g5⟩ := send_inv _ n h3 hg
          unfold tidewracklaw25_NetCounts_j5
          rw [show (⟨n.most, n.lost, n.l⟩ : T55) = n from rfl, send_eq K n _ (by simp) (by simp; omega) hg h3 (by omega), bS, show IntKind.wrap .i64 ((came : Int) + 1) = ((came + 1 : Nat) : Int) from by rw [w64 (by omega) (by omega)]; omega]
          simp only [List.length_cons, List.length_nil] at g5 ⊢
          exact fin (came + 1) gone _ ((addLost_inv g1 _).up (by omega)) (by omega) (by omega) (by simp only [addLost]; omega)
        · rw [if_neg k0, cE]
          by_cases k1 : a.Kind = 1
          · obtain ⟨t1, t2, t3, t4⟩ := take_inv n a.I h3
            rw [if_pos k1, show (⟨n.most, n.lost, n.l⟩ : T55) = n from rfl, take_eq n _ h3, bS]
            cases hb : (takeF n a.I).2.1 with
            | true =>
              rw [hb] at t4
              simp only [bitN, if_true] at t4
              rw [cond_true, show IntKind.wrap .i64 ((gone : Int) + 1) = ((gone + 1 : Nat) : Int) from by rw [w64 (by omega) (by omega)]; omega]
              exact fin came (gone + 1) _ (t1.up (by omega)) (by omega) (by omega) (by omega)
            | false =>
              rw [hb] at t4
              simp [bitN] at t4
              rw [cond_false]
              exact fin came gone _ (t1.up (by omega)) (by omega) (by omega) (by omega)
          · rw [if_neg k1, cE]
            by_cases k2 : a.Kind = 2
            · obtain ⟨r, n', e1, e2, e3, e4, e5⟩ := loseN n a.I h3 (by omega)
              rw [if_pos k2, show (⟨n.most, n.lost, n.l⟩ : T55) = n from rfl, e1, bS]
              exact fin came gone n' e3 (by omega) (by omega) (by omega)
            · rw [if_neg k2, cE]
              by_cases k3 : a.Kind = 3
              · obtain ⟨r, n', e1, e2, e3, e4, e5, e6⟩ := twinN n a.I h3
                have hbn : bitN r ≤ 1 := by unfold bitN; split <;> omega
                rw [if_pos k3, show (⟨n.most, n.lost, n.l⟩ : T55) = n from rfl, e1, bS, bit_eq, bS, show IntKind.wrap .i64 ((came : Int) + ((bitN r : Nat) : Int)) = ((came + bitN r : Nat) : Int) from by rw [w64 (by omega) (by omega)]; omega]
                exact fin (came + bitN r) gone n' (e3.up (by omega)) (by omega) (by omega) (by omega)
              · obtain ⟨r, n', e1, e2, e3, e4, e5, e6⟩ := turnN K (by omega) n a.I a.At a.Mask h3 hm
                rw [if_neg k3, show (⟨n.most, n.lost, n.l⟩ : T55) = n from rfl, e1, bS]
                exact fin came gone n' (e3.up (by omega)) (by omega) (by omega) (by omega)
      · rw [if_pos (by omega), if_neg (by omega)]; rfl
    · rw [if_neg (by omega)]; rfl
theorem NetCounts (x0 : Int) (w0 : (Lit.int .i64 x0).wf = true) (x1 : List T40) (w1 : ∀ y ∈ x1, (WF.wfT40) y) (l1 : x1.length ≤ maxLen) : ∃ K, tidewracklaw25_NetCounts K x0 x1 = some true := by
  suffices h : ∀ K, 6000 ≤ K → tidewracklaw25_NetCounts K x0 x1 = some true from ⟨6000, h _ (Nat.le_refl _)⟩
  intro K hK
  unfold tidewracklaw25_NetCounts net_New
  rw [awake_eq K (by omega), bS, Bool.not_true, cond_false, bS]
  exact counts_loop K (by omega) x1 w1 K 0 0 0 ⟨mxI 1 (mnI x0 4096), 0, []⟩ (by omega) (by omega) (new_inv x0) (by omega) (by omega) (by simp)
/-! ### NetOrder -/
def datas (l : List T28) : List ByteArray := l.map fun g => g.Data
theorem for01 (l : List T28) (h : ∀ g ∈ l, g.To = 0 ∨ g.To = 1) : ∀ i, i ≤ l.length → (forF l 0 i).length + (forF l 1 i).length = i
  | 0, _ => by simp [forF]
  | i + 1, hi => by
    have := for01 l h i (by omega)
    have hm := h (l.getD i zT28) (by simp only [List.getD_eq_getElem?_getD, List.getElem?_eq_getElem (by omega : i < l.length)]; exact List.getElem_mem _)
    simp only [forF, List.length_append]
    rcases hm with hm | hm <;> rw [hm] <;> simp <;> omega
theorem order3 (p0 : List ByteArray) (q : List ByteArray) (lost : Int) (most : Int) (hlost : lost = mnI (p0.length : Int) 40 - q.length) (hq : q.length ≤ 100) (hp : lost ≤ 40 ∧ 0 ≤ lost) (hm : 1 ≤ most ∧ most ≤ 4096) :
    ∀ (k i : Nat) (l : List T28), q.length < k + i → i ≤ q.length → datas l = q.drop i → (l.length : Int) ≤ most → (∀ g ∈ l, g.Data.size ≤ 40) → tidewracklaw25_NetOrder_l3 p0 q k most lost l i = some true
  | 0, i, l, h1, h2, h3, h4, h5 => by omega
  | k + 1, i, l, h1, h2, h3, h4, h5 => by
    have ih := order3 p0 q lost most hlost hq hp hm k
    have hlen : l.length = q.length - i := by have := congrArg List.length h3; simpa [datas] using this
    have hI : Inv ⟨most, lost, l⟩ 40 := ⟨hm.1, hm.2, h4, hp.2, by simp only; omega, h5⟩
    unfold tidewracklaw25_NetOrder_l3
    rw [cD]
    by_cases hi : i < q.length
    · have hw : IntKind.wrap .i64 ((i : Int) + 1) = ((i + 1 : Nat) : Int) := by rw [w64 (by omega) (by omega)]; omega
      rw [List.drop_eq_getElem_cons hi] at h3
      match l, h3, hlen, h4, h5, hI with
      | g :: l, h3, hlen, h4, h5, hI =>
        simp only [datas, List.map_cons, List.cons.injEq] at h3
        have ht : takeF ⟨most, lost, g :: l⟩ 0 = (g, true, ⟨most, lost, l⟩) := by
          unfold takeF
          rw [if_pos (by simp only [List.length_cons]; omega)]
          simp [rdD]
        rw [if_pos (by omega), if_pos (by omega), take_eq _ 0 hI, bS, ht]
        simp only [Bool.not_true, cond_false]
        rw [cSN, rdD_get _ _ hi, if_pos h3.1, hw]
        exact ih (i + 1) l (by omega) (by omega) h3.2 (by simp only [List.length_cons] at h4; omega) (fun x hx => h5 x (by simp [hx]))
    · rw [if_neg (by omega)]
      unfold tidewracklaw25_NetOrder_j2 net_Net_Len net_Net_Lost
      have : l = [] := List.eq_nil_of_length_eq_zero (by omega)
      subst this
      rw [bS, cE, if_pos (by simp), bS, w64 (by omega) (by omega), hlost]
      simp
theorem and1i (x : Nat) : bits .and .i64 (x : Int) 1 = 0 ∨ bits .and .i64 (x : Int) 1 = 1 := by
  obtain ⟨n, h1, h2⟩ := and_le (x : Int) 1 (by decide)
  rw [show ((1 : Nat) : Int) = 1 from rfl] at h2
  rw [h2]; omega
theorem order4 (K : Nat) (hK : 6000 ≤ K) (p0 : List ByteArray) (p1 : Int) (most : Nat) (hm : IntKind.wrap .i64 (1 + bits .and .i64 p1 31) = (most : Int)) (hm2 : 1 ≤ most ∧ most ≤ 32) :
    ∀ (k i : Nat) (n : T55), 40 < k + i → i ≤ 40 → i ≤ p0.length → Inv n i → n.most = most → (n.l.length : Int) + n.lost = i → (∀ g ∈ n.l, g.To = 0 ∨ g.To = 1) → tidewracklaw25_NetOrder_l4 K p0 p1 k n.most n.lost n.l (datas n.l) i = some true
  | 0, i, n, h1, h2, h2', h3, h4, h5, h6 => by omega
  | k + 1, i, n, h1, h2, h2', h3, h4, h5, h6 => by
    have ih := order4 K hK p0 p1 most hm hm2 k
    have hb1 := h3.b1
    have hb2 := h3.b2
    have hl := h3.l
    have hdl : (datas n.l).length = n.l.length := by simp [datas]
    have fin : i = min p0.length 40 → tidewracklaw25_NetOrder_j1 K p0 n.most n.lost n.l (datas n.l) = some true := fun hi => by
      unfold tidewracklaw25_NetOrder_j1
      have hf := for01 n.l h6 n.l.length (Nat.le_refl _)
      rw [show (⟨n.most, n.lost, n.l⟩ : T55) = n from rfl, for_eq K n 0 (by omega) (by omega), bS, for_eq K n 1 (by omega) (by omega), bS, cN, w64 (by omega) (by omega), if_pos (by omega)]
      have := order3 p0 (datas n.l) n.lost n.most (by unfold mnI; split <;> omega) (by omega) (by omega) ⟨h3.m1, h3.m2⟩ K 0 n.l (by omega) (by omega) (by simp) h3.l h3.d
      rw [show ((0 : Nat) : Int) = 0 from rfl] at this
      exact this
    unfold tidewracklaw25_NetOrder_l4
    rw [cD, cD]
    by_cases c1 : i < p0.length
    · by_cases c2 : i < 40
      · have hw : IntKind.wrap .i64 ((i : Int) + 1) = ((i + 1 : Nat) : Int) := by rw [w64 (by omega) (by omega)]; omega
        rw [if_pos (by omega), if_pos (by omega)]
        unfold tidewracklaw25_NetOrder_j5
        rw [if_pos (by omega), rdD_get _ _ c1, show (30 : Int) = ((30 : Nat) : Int) from rfl, cut_eq, bS, hm]
        have hz := cut_size p0[i] 30
        generalize cutF p0[i] 30 = s at hz ⊢
        have ha := and1i i
        have key : ∀ r : Bool, r = decide (s ≠ E0 ∧ n.l.length < most) → tidewracklaw25_NetOrder_j6 K n.most n.lost n.l (datas n.l) i (tidewracklaw25_NetOrder_l4 K p0 p1 k) s r = some true := fun r hr => by
          unfold tidewracklaw25_NetOrder_j6
          have hg : ∀ g ∈ [(⟨(i : Int), bits .and .i64 (i : Int) 1, s⟩ : T28)], g.Data.size ≤ 40 := by
            intro g hg
            simp only [List.mem_singleton] at hg
            subst hg; simp only; omega
          obtain ⟨g1, g2, g3, g4, g5⟩ := send_inv _ n h3 hg
          rw [show (⟨n.most, n.lost, n.l⟩ : T55) = n from rfl, send_eq K n _ (by simp) (by simp; omega) hg h3 (by omega), bS, bit_eq, bS, cN]
          have hput : putF n ⟨(i : Int), bits .and .i64 (i : Int) 1, s⟩ = if r = true then (true, ⟨n.most, n.lost, n.l ++ [⟨(i : Int), bits .and .i64 (i : Int) 1, s⟩]⟩) else (false, n) := by
            unfold putF
            simp only
            by_cases c : s = E0 ∨ (n.l.length : Int) ≥ n.most
            · rw [if_pos c, hr, decide_eq_false (by rintro ⟨a, b⟩; rcases c with c | c; exact a c; omega)]; rfl
            · have : s ≠ E0 ∧ n.l.length < most := ⟨fun h => c (.inl h), by have : ¬ (n.l.length : Int) ≥ n.most := fun h => c (.inr h); omega⟩
              rw [if_neg c, hr, decide_eq_true this]; rfl
          cases r with
          | true =>
            simp only [if_true] at hput
            have hs : sendF n [(⟨(i : Int), bits .and .i64 (i : Int) 1, s⟩ : T28)] = (1, ⟨n.most, n.lost, n.l ++ [⟨(i : Int), bits .and .i64 (i : Int) 1, s⟩]⟩) := by
              simp only [sendF, hput]; rfl
            rw [hs] at g1 ⊢
            rw [if_pos (by rfl), cond_true, if_pos (by simp only [List.length_cons, List.length_nil]; omega), hw]
            have := ih (i + 1) ⟨n.most, n.lost, n.l ++ [⟨(i : Int), bits .and .i64 (i : Int) 1, s⟩]⟩ (by omega) (by omega) (by omega) (g1.up (by omega)) h4 (by simp; omega) (fun g hg => by
              rcases List.mem_append.1 hg with hg | hg
              · exact h6 g hg
              · simp only [List.mem_singleton] at hg; subst hg; exact ha)
            simpa [datas, addLost] using this
          | false =>
            simp only [Bool.false_eq_true, if_false] at hput
            have hs : sendF n [(⟨(i : Int), bits .and .i64 (i : Int) 1, s⟩ : T28)] = (0, n) := by
              simp only [sendF, hput]; rfl
            rw [hs]
            rw [if_pos (by rfl), cond_false, hw]
            exact ih (i + 1) (addLost n 1) (by omega) (by omega) (by omega) ((addLost_inv h3 1)) h4 (by simp only [addLost]; omega) h6
        rw [cSN]
        by_cases c : s = E0
        · rw [if_pos c]
          exact key false (decide_eq_false (fun h => h.1 c)).symm
        · rw [if_neg c]
          refine key _ ?_
          rw [decide_eq_decide, hdl]
          exact ⟨fun h => ⟨c, by omega⟩, fun h => by omega⟩
      · rw [if_pos (by omega), if_neg (by omega)]; exact fin (by omega)
    · rw [if_neg (by omega)]; exact fin (by omega)
theorem NetOrder (x0 : List ByteArray) (w0 : ∀ y ∈ x0, (WF.wfStr) y) (l0 : x0.length ≤ maxLen) (x1 : Int) (w1 : (Lit.int .i64 x1).wf = true) : ∃ K, tidewracklaw25_NetOrder K x0 x1 = some true := by
  suffices h : ∀ K, 6000 ≤ K → tidewracklaw25_NetOrder K x0 x1 = some true from ⟨6000, h _ (Nat.le_refl _)⟩
  intro K hK
  unfold tidewracklaw25_NetOrder net_New
  obtain ⟨n, h1, h2⟩ := and_le x1 31 (by decide)
  rw [show ((31 : Nat) : Int) = 31 from rfl] at h2
  have hw : IntKind.wrap .i64 (1 + bits .and .i64 x1 31) = ((1 + n : Nat) : Int) := by rw [h2, w64 (by omega) (by omega)]; omega
  have hi := new_inv ((1 + n : Nat) : Int)
  have hm : mxI 1 (mnI ((1 + n : Nat) : Int) 4096) = ((1 + n : Nat) : Int) := by unfold mxI mnI; (repeat' split) <;> omega
  rw [awake_eq K (by omega), bS, Bool.not_true, cond_false, hw, bS]
  rw [hm] at hi ⊢
  exact order4 K hK x0 x1 (1 + n) hw (by omega) K 0 ⟨((1 + n : Nat) : Int), 0, []⟩ (by omega) (by omega) (by omega) hi rfl (by simp) (by simp)
end Go.Proofs.Ytknddjjgidaedaa.Pure
