/- Plain laws: what the plain functions answer, with no program in sight. -/
import Derived.Test.YtpciioffkjpieaaDoorTPC
set_option linter.unusedVariables false
set_option linter.unusedSimpArgs false
namespace Go.Proofs.YtpciioffkjpieaaDoor.Pure
open Go Go.Proofs.XC Go.Proofs.YtpciioffkjpieaaDoor

def Pr (c : Int) : Prop := 32 ≤ c ∧ c ≠ 127
theorem run_ground : ∀ (l : List Int) (s : S), s.st = 0 → (∀ c ∈ l, Pr c) → run s l = ({s with d := (dec s.d l).1}, (dec s.d l).2.map prt)
  | [], s, h, hp => rfl
  | c :: r, s, h, hp => by
    have hc : Pr c := hp c (by simp)
    have e : step s c = ({s with d := (nextF s.d c).1}, (nextF s.d c).2.map prt) := by
      unfold step gndF
      rw [if_pos h, if_neg (by have := hc.1; have := hc.2; omega)]
    unfold run dec
    rw [e, run_ground r {s with d := (nextF s.d c).1} h (fun x hx => hp x (by simp [hx])), List.map_append]
theorem encF_pr {r : Int} (h : Pr r) : ∀ c ∈ encF r, Pr c := by
  have hf : Pr (fixR r) ∧ 0 ≤ fixR r ∧ fixR r ≤ 1114111 := by
    have := h.1; have := h.2
    unfold fixR Pr; split <;> omega
  obtain ⟨⟨f1, f2⟩, f3, f4⟩ := hf
  unfold encF encB
  generalize fixR r = x at *
  split
  · intro c hc; rw [List.mem_singleton.1 hc]; exact ⟨f1, f2⟩
  · split
    · intro c hc; simp at hc; unfold Pr; omega
    · split
      · intro c hc; simp at hc; unfold Pr; omega
      · intro c hc; simp at hc; unfold Pr; omega
/-! ### What is printed -/
def rn : List T50 → List Int
  | [] => []
  | a :: r => if a.Kind = 1 then a.Rune :: rn r else rn r
theorem rn_append : ∀ (a b : List T50), rn (a ++ b) = rn a ++ rn b
  | [], b => rfl
  | x :: a, b => by
    show (if x.Kind = 1 then x.Rune :: rn (a ++ b) else rn (a ++ b)) = (if x.Kind = 1 then x.Rune :: rn a else rn a) ++ rn b
    rw [rn_append a b]
    split <;> rfl
theorem rn_prt : ∀ l : List Int, rn (l.map prt) = l
  | [] => rfl
  | x :: l => by
    show rn (prt x :: l.map prt) = _
    unfold rn
    rw [rn_prt l, if_pos (show (prt x).Kind = 1 from rfl)]; rfl
theorem rn_none : ∀ l : List T50, (∀ a ∈ l, a.Kind ≠ 1) → rn l = []
  | [], h => rfl
  | x :: l, h => by
    unfold rn
    rw [if_neg (h x (by simp)), rn_none l fun a ha => h a (by simp [ha])]
theorem rn_titles (t : ByteArray) : rn (titles t) = [] := by
  apply rn_none
  unfold titles
  intro a ha
  rcases List.mem_append.1 ha with ha | ha
  · split at ha
    · rw [List.mem_singleton.1 ha]; simp [ttl]
    · cases ha
  · split at ha
    · rw [List.mem_singleton.1 ha]; simp [ttl]
    · cases ha
theorem rn_len : ∀ l : List T50, (rn l).length ≤ l.length
  | [] => Nat.le_refl _
  | x :: l => by
    have := rn_len l
    unfold rn; split
    · simp; omega
    · simp; omega
structure Home (s : S) : Prop where
  st : s.st = 0
  d : s.d = Z
def quiet (w : List Int) : Prop := ∀ s, Home s → Home (run s w).1 ∧ rn (run s w).2 = []
theorem q0 : quiet [] := fun s h => ⟨h, rfl⟩
theorem q1 : quiet [27, 91, 51, 49, 109] := by
  rintro ⟨st, pv, wr, an, so, n, nums, text, d⟩ ⟨h1, h2⟩
  dsimp only at h1 h2
  subst h1 h2
  exact ⟨⟨rfl, rfl⟩, rfl⟩
theorem tit_c (s : S) (b : Int) (h4 : s.st = 4) (hd : s.d = Z) (hb : b ≠ 7 ∧ b ≠ 24 ∧ b ≠ 26 ∧ b ≠ 27) : ∃ s', step s b = (s', []) ∧ s'.st = 4 ∧ s'.d = Z := by
  unfold step titF titG
  rw [if_neg (by omega), if_neg (by omega), if_neg (by omega), if_neg (by omega), if_pos h4, if_neg hb.1, if_neg (by omega), if_neg (by omega)]
  split
  · exact ⟨_, rfl, h4, hd⟩
  · exact ⟨_, rfl, h4, hd⟩
theorem q2 : quiet [27, 93, 48, 59, 120, 7] := by
  rintro ⟨st, pv, wr, an, so, n, nums, text, d⟩ ⟨h1, h2⟩
  dsimp only at h1 h2
  subst h1 h2
  have e : run ⟨0, pv, wr, an, so, n, nums, text, Z⟩ [27, 93, 48, 59, 120, 7] = run ⟨4, pv, wr, an, so, n, nums, ⟨#[]⟩, Z⟩ [48, 59, 120, 7] := by
    have a1 : step ⟨0, pv, wr, an, so, n, nums, text, Z⟩ 27 = (⟨1, pv, wr, an, so, n, nums, text, Z⟩, []) := rfl
    have a2 : step ⟨1, pv, wr, an, so, n, nums, text, Z⟩ 93 = (⟨4, pv, wr, an, so, n, nums, ⟨#[]⟩, Z⟩, []) := rfl
    rw [run, a1]
    dsimp only
    rw [run, a2]
    dsimp only
    rw [List.nil_append, List.nil_append]
  rw [e]
  obtain ⟨s1, e1, a1, b1⟩ := tit_c ⟨4, pv, wr, an, so, n, nums, ⟨#[]⟩, Z⟩ 48 rfl rfl (by omega)
  obtain ⟨s2, e2, a2, b2⟩ := tit_c s1 59 a1 b1 (by omega)
  obtain ⟨s3, e3, a3, b3⟩ := tit_c s2 120 a2 b2 (by omega)
  have e4 : step s3 7 = ovrF s3 := by
    unfold step titF
    rw [if_neg (by omega), if_neg (by omega), if_neg (by omega), if_neg (by omega), if_pos a3, if_pos rfl]
  unfold run
  rw [e1]
  unfold run
  rw [e2]
  unfold run
  rw [e3]
  unfold run
  rw [e4]
  unfold run ovrF
  refine ⟨⟨rfl, b3⟩, ?_⟩
  show rn (titles s3.text ++ []) = []
  rw [List.append_nil]
  exact rn_titles _
theorem q3 : quiet [27, 91, 63, 50, 53, 108] := by
  rintro ⟨st, pv, wr, an, so, n, nums, text, d⟩ ⟨h1, h2⟩
  dsimp only at h1 h2
  subst h1 h2
  exact ⟨⟨rfl, rfl⟩, rfl⟩
theorem q4 : quiet [27, 40, 66] := by
  rintro ⟨st, pv, wr, an, so, n, nums, text, d⟩ ⟨h1, h2⟩
  dsimp only at h1 h2
  subst h1 h2
  exact ⟨⟨rfl, rfl⟩, rfl⟩
theorem q5 : quiet [27, 91, 50, 59, 51, 72] := by
  rintro ⟨st, pv, wr, an, so, n, nums, text, d⟩ ⟨h1, h2⟩
  dsimp only at h1 h2
  subst h1 h2
  exact ⟨⟨rfl, rfl⟩, rfl⟩
theorem q6 : quiet [27, 55] := by
  rintro ⟨st, pv, wr, an, so, n, nums, text, d⟩ ⟨h1, h2⟩
  dsimp only at h1 h2
  subst h1 h2
  exact ⟨⟨rfl, rfl⟩, rfl⟩
def seqs : List ByteArray := [(⟨#[]⟩ : ByteArray), (⟨#[27, 91, 51, 49, 109]⟩ : ByteArray), (⟨#[27, 93, 48, 59, 120, 7]⟩ : ByteArray), (⟨#[27, 91, 63, 50, 53, 108]⟩ : ByteArray), (⟨#[27, 40, 66]⟩ : ByteArray), (⟨#[27, 91, 50, 59, 51, 72]⟩ : ByteArray), (⟨#[27, 55]⟩ : ByteArray)]
theorem seqs_quiet (n : Nat) (h : n < 7) : quiet (numsOf (rdD (⟨#[]⟩ : ByteArray) seqs (n : Int))) ∧ (rdD (⟨#[]⟩ : ByteArray) seqs (n : Int)).size ≤ 6 := by
  match n, h with
  | 0, _ => exact ⟨q0, by decide⟩
  | 1, _ => exact ⟨q1, by decide⟩
  | 2, _ => exact ⟨q2, by decide⟩
  | 3, _ => exact ⟨q3, by decide⟩
  | 4, _ => exact ⟨q4, by decide⟩
  | 5, _ => exact ⟨q5, by decide⟩
  | 6, _ => exact ⟨q6, by decide⟩
/-! ### The law -/
structure W (t : ByteArray) (want : List Int) (i : Nat) : Prop where
  h : Home (run S0 (numsOf t)).1
  r : rn (run S0 (numsOf t)).2 = want
  n : t.size ≤ 10 * i
  v : ∀ x ∈ want, valid x
  l : want.length ≤ i
theorem W.seq {t : ByteArray} {want : List Int} {i : Nat} (h : W t want i) {w : ByteArray} (hw : quiet (numsOf w)) (hs : w.size ≤ 6) : Home (run S0 (numsOf (t ++ w))).1 ∧ rn (run S0 (numsOf (t ++ w))).2 = want ∧ (t ++ w).size ≤ 10 * i + 6 := by
  have := hw _ h.h
  rw [nums_append, run_append, rn_append, this.2, List.append_nil]
  exact ⟨this.1, h.r, by have := h.n; rw [ByteArray.size_append]; omega⟩
theorem loop4 (a : List Int) (ha : a.length ≤ 10000) : ∀ (k i : Nat), a.length < k + i → i ≤ a.length → tidewracktop_TidewrackPrinted_l4 a a k i = some true
  | 0, i, h1, h2 => by omega
  | k + 1, i, h1, h2 => by
    have ih := loop4 a ha k
    unfold tidewracktop_TidewrackPrinted_l4
    rw [cD]
    by_cases c : i < a.length
    · have hw : IntKind.wrap .i64 ((i : Int) + 1) = ((i + 1 : Nat) : Int) := by rw [w64 (by omega) (by omega)]; omega
      rw [if_pos (by omega), if_pos (by omega), if_pos (by omega), cN, if_pos rfl, hw]
      exact ih (i + 1) (by omega) (by omega)
    · rw [if_neg (by omega)]; rfl
theorem loop7 (x : Int) (lp : Int → Bool → Bool → Bool → Bool → Int → List Int → ByteArray → Int → Int → Int → List Int → Int → Option Bool) (t : List T50 × T47) (ht : t.1.length ≤ 10000) : ∀ (k i : Nat) (l : List Int), t.1.length < k + i → i ≤ t.1.length → l.length ≤ 100000 + i →
    tidewracktop_TidewrackPrinted_l7 x lp t k l i = tidewracktop_TidewrackPrinted_j6 x lp t.2.state t.2.order_private_ t.2.order_wrong t.2.order_any t.2.order_some t.2.order_n t.2.order_nums t.2.text t.2.runes_Lead t.2.runes_Rune t.2.runes_Need (l ++ rn (t.1.drop i))
  | 0, i, l, h1, h2, h3 => by omega
  | k + 1, i, l, h1, h2, h3 => by
    have ih := loop7 x lp t ht k
    unfold tidewracktop_TidewrackPrinted_l7
    rw [cD]
    by_cases c : i < t.1.length
    · have hw : IntKind.wrap .i64 ((i : Int) + 1) = ((i + 1 : Nat) : Int) := by rw [w64 (by omega) (by omega)]; omega
      rw [if_pos (by omega), if_pos (by omega), rdD_get _ _ c, cE, hw, List.drop_eq_getElem_cons c]
      unfold rn
      by_cases a : t.1[i].Kind = 1
      · rw [if_pos a, if_pos a, if_pos (by simp; omega), ih (i + 1) _ (by omega) (by omega) (by simp; omega), List.append_assoc]; rfl
      · rw [if_neg a, if_neg a, ih (i + 1) _ (by omega) (by omega) (by omega)]
    · rw [if_neg (by omega), List.drop_eq_nil_of_le (by omega)]
      unfold rn
      rw [List.append_nil]
theorem feedE (K : Nat) (hK : 1000 < K) (s : S) (hs : Ok s) (t : ByteArray) (ht : t.size ≤ 1000) : seq_Parser_Feed K (⟨s.st, s.pv, s.wr, s.an, s.so, s.n, s.nums, s.text, s.d.Lead, s.d.Rune, s.d.Need, ([] : List T50)⟩ : T47) t = some ((run s (numsOf t)).2, tT (run s (numsOf t)).1 []) := feed_eq K hK s hs t ht
theorem evs_len (s : S) (t : ByteArray) : (run s (numsOf t)).2.length ≤ 2 * t.size := by
  have := run_len (numsOf t) s
  rw [numsOf_len] at this
  exact this
theorem printed_j1 (K : Nat) (hK : 5000 ≤ K) (p2 : Int) (t : ByteArray) (want : List Int) (h : W t want 30) : tidewracktop_TidewrackPrinted_j1 K p2 t want = some true := by
  have hn := h.n
  have hl := h.l
  obtain ⟨c, hc1, hc2⟩ : ∃ c : Nat, c ≤ t.size ∧ mxI 0 (mnI p2 (t.size : Int)) = (c : Int) := by
    unfold mxI mnI
    split
    · split
      · exact ⟨t.size, Nat.le_refl _, rfl⟩
      · exact ⟨0, Nat.zero_le _, rfl⟩
    · split
      · exact ⟨p2.toNat, by omega, by omega⟩
      · exact ⟨0, Nat.zero_le _, rfl⟩
  have hx0 : (t.extract 0 c).size ≤ 300 := by rw [ext_size]; omega
  have hx1 : (t.extract c t.size).size ≤ 300 := by rw [ext_size]; omega
  have hsplit : numsOf t = numsOf (t.extract 0 c) ++ numsOf (t.extract c t.size) := by
    rw [nums_extract, nums_extract, List.drop_zero, List.take_of_length_le (i := t.size) (by rw [numsOf_len]; omega), List.take_append_drop]
  have ho : Ok (run S0 (numsOf (t.extract 0 c))).1 := ok_run _ Ok.S0 (numsOf_bytes _)
  have hr := h.r
  rw [hsplit, run_append, rn_append] at hr
  have l0 := evs_len S0 (t.extract 0 c)
  have l1 := evs_len (run S0 (numsOf (t.extract 0 c))).1 (t.extract c t.size)
  unfold tidewracktop_TidewrackPrinted_j1
  rw [hc2, if_pos (by omega), if_pos (by omega)]
  obtain ⟨k, rfl⟩ : ∃ k, K = k + 3 := ⟨K - 3, by omega⟩
  have w1 : IntKind.wrap .i64 ((0 : Int) + 1) = 1 := rfl
  have w2 : IntKind.wrap .i64 ((1 : Int) + 1) = 2 := rfl
  unfold tidewracktop_TidewrackPrinted_l5
  rw [hc2, Int.toNat_natCast, cD, if_pos (by simp), if_pos (by simp)]
  have e0 : rdD (⟨#[]⟩ : ByteArray) [t.extract 0 c, t.extract c t.size] 0 = t.extract 0 c := rfl
  have e1 : rdD (⟨#[]⟩ : ByteArray) [t.extract 0 c, t.extract c t.size] 1 = t.extract c t.size := rfl
  have f0 := feedE (k + 3) (by omega) S0 Ok.S0 (t.extract 0 c) (by omega)
  rw [e0, f0, bS]
  have s0 := loop7 0 (tidewracktop_TidewrackPrinted_l5 (k + 3) p2 t want (k + 2)) ((run S0 (numsOf (t.extract 0 c))).2, tT (run S0 (numsOf (t.extract 0 c))).1 []) (by dsimp only; omega) (k + 3) 0 [] (by dsimp only; omega) (by omega) (by simp)
  rw [show ((0 : Nat) : Int) = 0 from rfl, List.drop_zero, List.nil_append] at s0
  rw [s0]
  unfold tidewracktop_TidewrackPrinted_j6
  rw [w1]
  unfold tidewracktop_TidewrackPrinted_l5
  rw [hc2, Int.toNat_natCast, cD, if_pos (by simp), if_pos (by simp)]
  have f1 := feedE (k + 3) (by omega) _ ho (t.extract c t.size) (by omega)
  rw [e1]
  dsimp only [tT]
  rw [f1, bS]
  have hrl := rn_len (run S0 (numsOf (t.extract 0 c))).2
  have s1 := loop7 1 (tidewracktop_TidewrackPrinted_l5 (k + 3) p2 t want (k + 1)) ((run (run S0 (numsOf (t.extract 0 c))).1 (numsOf (t.extract c t.size))).2, tT (run (run S0 (numsOf (t.extract 0 c))).1 (numsOf (t.extract c t.size))).1 []) (by dsimp only; omega) (k + 3) 0 (rn (run S0 (numsOf (t.extract 0 c))).2) (by dsimp only; omega) (by omega) (by omega)
  rw [show ((0 : Nat) : Int) = 0 from rfl, List.drop_zero] at s1
  rw [s1]
  unfold tidewracktop_TidewrackPrinted_j6
  rw [w2]
  unfold tidewracktop_TidewrackPrinted_l5
  rw [cD, if_neg (by simp)]
  dsimp only
  rw [hr]
  unfold tidewracktop_TidewrackPrinted_j2
  rw [cN, if_pos rfl]
  exact loop4 want (by omega) (k + 3) 0 (by omega) (by omega)
theorem W.le {t : ByteArray} {want : List Int} {i j : Nat} (h : W t want i) (hj : i ≤ j) : W t want j := ⟨h.h, h.r, by have := h.n; omega, h.v, by have := h.l; omega⟩
theorem dec_one (K : Nat) (hK : 5000 ≤ K) (r : Int) : glyph_Encode K [r] = some (strOfNums (encF r)) ∧ glyph_Decode K (strOfNums (encF r)) = some [fixR r] := by
  have hb := enc_bytes r
  have e := penc_eq K [r] (by simp) (by simp; omega)
  have e2 : [r].flatMap encF = encF r := by simp
  rw [e2] at e
  refine ⟨e, ?_⟩
  rw [decode_eq K _ (by rw [str_size]; omega) (by omega) (by rw [str_size]; omega), nums_str _ hb.1]
  unfold decAll
  rw [dec_encF]
  rfl
theorem printed_l8 (K : Nat) (hK : 5000 ≤ K) (p0 : List Int) (p1 : List Int) (p2 : Int) : ∀ (k i : Nat) (t : ByteArray) (want : List Int), min 30 p0.length < k + i → i ≤ min 30 p0.length → W t want i → tidewracktop_TidewrackPrinted_l8 K p0 p1 p2 k t want i = some true
  | 0, i, t, want, h1, h2, h => by omega
  | k + 1, i, t, want, h1, h2, h => by
    have ih := printed_l8 K hK p0 p1 p2 k
    have hn := h.n
    have hl := h.l
    unfold tidewracktop_TidewrackPrinted_l8
    rw [cD, cD]
    have hend := printed_j1 K hK p2 t want (h.le (by omega))
    by_cases c : i < p0.length
    · rw [if_pos (by omega)]
      by_cases c2 : i < 30
      · have hw : IntKind.wrap .i64 ((i : Int) + 1) = ((i + 1 : Nat) : Int) := by rw [w64 (by omega) (by omega)]; omega
        rw [if_pos (by omega)]
        have h10 : ∀ t' : ByteArray, Home (run S0 (numsOf t')).1 ∧ rn (run S0 (numsOf t')).2 = want ∧ t'.size ≤ 10 * i + 6 → tidewracktop_TidewrackPrinted_j10 K p0 want i (tidewracktop_TidewrackPrinted_l8 K p0 p1 p2 k) t' = some true := by
          intro t' ⟨g1, g2, g3⟩
          have hsame : tidewracktop_TidewrackPrinted_l8 K p0 p1 p2 k t' want ((i + 1 : Nat) : Int) = some true := ih (i + 1) t' want (by omega) (by omega) ⟨g1, g2, by omega, h.v, by omega⟩
          have h11 : ∀ y : Bool, (y = true → Pr p0[i]) → tidewracktop_TidewrackPrinted_j11 K p0 want i (tidewracktop_TidewrackPrinted_l8 K p0 p1 p2 k) t' y = some true := by
            intro y hy
            unfold tidewracktop_TidewrackPrinted_j11
            cases y with
            | false => rw [cond_false, hw]; exact hsame
            | true =>
              have hh := hy rfl
              have he := dec_one K hK p0[i]
              have hb := enc_bytes p0[i]
              have hz := str_size (encF p0[i])
              rw [cond_true, if_pos (by omega), rdD_get _ _ c, he.1, bS, if_pos (by omega), bS, he.2, bS, if_pos (by simp; omega), hw]
              refine ih (i + 1) _ _ (by omega) (by omega) ?_
              have hg := run_ground (encF p0[i]) (run S0 (numsOf t')).1 g1.st (encF_pr hh)
              rw [g1.d, dec_encF] at hg
              refine ⟨?_, ?_, ?_, ?_, ?_⟩
              · rw [nums_append, nums_str _ hb.1, run_append, hg]; exact ⟨g1.st, rfl⟩
              · rw [nums_append, nums_str _ hb.1, run_append, hg, rn_append, g2, rn_prt]
              · rw [ByteArray.size_append]; omega
              · intro x hx
                rcases List.mem_append.1 hx with hx | hx
                · exact h.v x hx
                · rw [List.mem_singleton.1 hx]; exact fix_valid _
              · rw [List.length_append, List.length_singleton]; omega
          unfold tidewracktop_TidewrackPrinted_j10
          rw [if_pos (by omega), cD, rdD_get _ _ c]
          by_cases a : p0[i] ≥ 32
          · rw [if_pos a]; exact h11 _ (fun hh => ⟨a, by simpa using hh⟩)
          · rw [if_neg a]; exact h11 _ (fun hh => by cases hh)
        unfold tidewracktop_TidewrackPrinted_j9
        rw [cD]
        by_cases c3 : i < p1.length
        · obtain ⟨m, hm, hb⟩ := and_le (rdD 0 p1 i) 65535 (by decide)
          rw [show ((65535 : Nat) : Int) = 65535 from rfl] at hb
          have ht : Int.tmod (m : Int) (((seqs.length : Nat) : Int)) = ((m % 7 : Nat) : Int) := by
            show Int.tmod (m : Int) 7 = _
            rw [tm _ _ (by omega)]; omega
          obtain ⟨hq, hz⟩ := seqs_quiet (m % 7) (by omega)
          have hlen : ((seqs.length : Nat) : Int) = 7 := rfl
          rw [if_pos (by omega), if_pos (by omega)]
          show (if ((seqs.length : Nat) : Int) ≠ 0 then (if 0 ≤ Int.tmod (bits .and .i64 (rdD 0 p1 i) 65535) ((seqs.length : Nat) : Int) ∧ Int.tmod (bits .and .i64 (rdD 0 p1 i) 65535) ((seqs.length : Nat) : Int) < ((seqs.length : Nat) : Int) then (if ((t.size + (rdD (⟨#[]⟩ : ByteArray) seqs (Int.tmod (bits .and .i64 (rdD 0 p1 i) 65535) ((seqs.length : Nat) : Int))).size : Nat) : Int) ≤ 9223372036854775807 then tidewracktop_TidewrackPrinted_j10 K p0 want i _ (t ++ rdD (⟨#[]⟩ : ByteArray) seqs (Int.tmod (bits .and .i64 (rdD 0 p1 i) 65535) ((seqs.length : Nat) : Int))) else none) else none) else none) = _
          rw [hb, ht, hlen, if_pos (by omega), if_pos (by omega), if_pos (by omega)]
          exact h10 _ (h.seq hq hz)
        · rw [if_neg (by omega)]
          exact h10 t ⟨h.h, h.r, by omega⟩
      · rw [if_neg (by omega)]; exact hend
    · rw [if_neg (by omega)]; exact hend
theorem TidewrackPrinted (x0 : List Int) (w0 : ∀ y ∈ x0, (WF.wfi32) y) (l0 : x0.length ≤ maxLen) (x1 : List Int) (w1 : ∀ y ∈ x1, (WF.wfi64) y) (l1 : x1.length ≤ maxLen) (x2 : Int) (w2 : (Lit.int .i64 x2).wf = true) : ∃ K, tidewracktop_TidewrackPrinted K x0 x1 x2 = some true := by
  suffices h : ∀ K, 5000 ≤ K → tidewracktop_TidewrackPrinted K x0 x1 x2 = some true from ⟨5000, h _ (Nat.le_refl _)⟩
  intro K hK
  unfold tidewracktop_TidewrackPrinted
  have hd := decode_eq K (⟨#[97]⟩ : ByteArray) (by decide) (by omega) (by show 1 < K; omega)
  have he : decAll (numsOf (⟨#[97]⟩ : ByteArray)) = [97] := rfl
  rw [hd, bS, he, cN, if_pos (show ((([97] : List Int).length : Nat) : Int) = 1 from rfl)]
  exact printed_l8 K hK x0 x1 x2 K 0 ⟨#[]⟩ [] (by omega) (by omega) ⟨⟨rfl, rfl⟩, rfl, by decide, by simp, by simp⟩
end Go.Proofs.YtpciioffkjpieaaDoor.Pure
