/- Plain laws: what the plain functions answer, with no program in sight. -/
import Derived.Test.YthddmlhmejnhlaaDoorPF
set_option linter.unusedVariables false
set_option linter.unusedSimpArgs false
namespace Go.Proofs.YthddmlhmejnhlaaDoor.Pure
open Go Go.Proofs.XC Go.Proofs.YthddmlhmejnhlaaDoor

theorem awake_take {α : Type} (K : Nat) (hK : 1005 ≤ K) (f : Bool → Option α) : (tidewracklaw07_awake K).bind f = f true := by rw [awake_eq K hK, bS]
theorem feed0 (K : Nat) (hK : 1000 < K) (t : ByteArray) (ht : t.size ≤ 1000) : seq_Parser_Feed K (⟨0, false, false, false, false, 0, ([] : List Int), (⟨#[]⟩ : ByteArray), 0, 0, 0, ([] : List T37)⟩ : T30) t = some ((run S0 (numsOf t)).2, tT (run S0 (numsOf t)).1 []) := feed_eq K hK S0 Ok.S0 t ht
theorem feedT (K : Nat) (hK : 1000 < K) (s : S) (hs : Ok s) (t : ByteArray) (ht : t.size ≤ 1000) : seq_Parser_Feed K (⟨(tT s []).state, (tT s []).order_private_, (tT s []).order_wrong, (tT s []).order_any, (tT s []).order_some, (tT s []).order_n, (tT s []).order_nums, (tT s []).text, (tT s []).runes_Lead, (tT s []).runes_Rune, (tT s []).runes_Need, ([] : List T37)⟩ : T30) t = some ((run s (numsOf t)).2, tT (run s (numsOf t)).1 []) := feed_eq K hK s hs t ht
theorem evs_ok {s : S} (hs : Ok s) (t : ByteArray) : ∀ a ∈ (run s (numsOf t)).2, okE a := okE_run _ hs (numsOf_bytes t)
theorem evs_len (s : S) (t : ByteArray) : (run s (numsOf t)).2.length ≤ 2 * t.size := by
  have := run_len (numsOf t) s
  rw [numsOf_len] at this
  exact this
/-! ### SeqReads -/
theorem SeqReads (x0 : ByteArray) (w0 : x0.size ≤ 140737488351232) : ∃ K, tidewracklaw07_SeqReads K x0 = some true := by
  suffices h : ∀ K, 5000 ≤ K → tidewracklaw07_SeqReads K x0 = some true from ⟨5000, h _ (Nat.le_refl _)⟩
  intro K hK
  have hs := cut_size x0 300
  have hl := evs_len S0 (cutF x0 300)
  unfold tidewracklaw07_SeqReads
  rw [awake_take K (by omega), Bool.not_true, cond_false, show (300 : Int) = ((300 : Nat) : Int) from rfl, cut_eq, bS, feed0 K (by omega) _ (by omega), bS, read_eq K (by omega) _ (by omega) S0 rfl rfl, bS, is_eq K (by omega) _ (evs_ok Ok.S0 _) (by omega) (by omega), bS]
/-! ### SeqGround -/
theorem home_eq {s : S} (h : Ok s) : ∃ s' e0, step s 24 = (s', e0) ∧ s'.st = 0 ∧ s'.d = Z ∧ (e0 = [] ∨ e0 = [prt 65533]) := by
  have hc : ∀ s : S, comF s 24 = (true, {s with st := 0}, []) := fun s => com_home s (.inl rfl)
  unfold step
  by_cases a0 : s.st = 0
  · rw [if_pos a0]
    unfold gndF
    rw [if_pos (by omega), hc]
    refine ⟨_, _, rfl, rfl, rfl, ?_⟩
    unfold endF; split
    · exact .inl rfl
    · exact .inr rfl
  · have hz := h.z a0
    rw [if_neg a0]
    by_cases a1 : s.st = 1
    · rw [if_pos a1]; unfold escF; rw [hc, if_pos rfl]; exact ⟨_, _, rfl, rfl, hz, .inl rfl⟩
    · rw [if_neg a1]
      by_cases a2 : s.st = 2
      · rw [if_pos a2]; unfold skpF; rw [hc, if_pos rfl]; exact ⟨_, _, rfl, rfl, hz, .inl rfl⟩
      · rw [if_neg a2]
        by_cases a3 : s.st = 3
        · rw [if_pos a3]; unfold cmdF; rw [hc, if_pos rfl]; exact ⟨_, _, rfl, rfl, hz, .inl rfl⟩
        · rw [if_neg a3]
          by_cases a4 : s.st = 4
          · rw [if_pos a4]; unfold titF titG; rw [if_neg (by omega), if_pos (by omega)]; exact ⟨_, _, rfl, rfl, hz, .inl rfl⟩
          · rw [if_neg a4, if_neg (by omega)]; unfold escF; rw [hc, if_pos rfl]; exact ⟨_, _, rfl, rfl, hz, .inl rfl⟩
theorem SeqGround (x0 : ByteArray) (w0 : x0.size ≤ 140737488351232) : ∃ K, tidewracklaw07_SeqGround K x0 = some true := by
  suffices h : ∀ K, 5000 ≤ K → tidewracklaw07_SeqGround K x0 = some true from ⟨5000, h _ (Nat.le_refl _)⟩
  intro K hK
  have hs := cut_size x0 200
  have ho : Ok (run S0 (numsOf (cutF x0 200))).1 := ok_run _ Ok.S0 (numsOf_bytes _)
  obtain ⟨s', e0, e1, e2, e3, e4⟩ := home_eq ho
  have e5 : step s' 122 = ({s' with d := Z}, [prt 122]) := by
    unfold step gndF
    rw [if_pos e2, if_neg (by omega), e3]
    rfl
  have er : (run (run S0 (numsOf (cutF x0 200))).1 (numsOf (⟨#[24, 122]⟩ : ByteArray))).2 = e0 ++ [prt 122] := by
    show (step _ 24).2 ++ ((step (step _ 24).1 122).2 ++ []) = _
    rw [e1]
    show e0 ++ ((step s' 122).2 ++ []) = _
    rw [e5]; rfl
  unfold tidewracklaw07_SeqGround
  rw [awake_take K (by omega), Bool.not_true, cond_false, show (200 : Int) = ((200 : Nat) : Int) from rfl, cut_eq, bS, feed0 K (by omega) _ (by omega), bS, feedT K (by omega) _ ho _ (by decide), bS, er]
  rcases e4 with rfl | rfl
  · rfl
  · rfl
/-! ### SeqAnew -/
theorem SeqAnew (x0 : ByteArray) (w0 : x0.size ≤ 140737488351232) (x1 : ByteArray) (w1 : x1.size ≤ 140737488351232) : ∃ K, tidewracklaw07_SeqAnew K x0 x1 = some true := by
  suffices h : ∀ K, 5000 ≤ K → tidewracklaw07_SeqAnew K x0 x1 = some true from ⟨5000, h _ (Nat.le_refl _)⟩
  intro K hK
  have hs0 := cut_size x0 150
  have hs1 := cut_size x1 150
  have ho : Ok (run S0 (numsOf (cutF x0 150))).1 := ok_run _ Ok.S0 (numsOf_bytes _)
  obtain ⟨s', e0, e1, e2, e3, e4⟩ := home_eq ho
  have ho' : Ok s' := by
    have := ok_step ho 24 (by omega) (by omega)
    rw [e1] at this
    exact this
  have hel := evs_len s' (cutF x1 150)
  have hok := evs_ok ho' (cutF x1 150)
  have er : (run (run S0 (numsOf (cutF x0 150))).1 (numsOf ((⟨#[24]⟩ : ByteArray) ++ cutF x1 150))).2 = e0 ++ (run s' (numsOf (cutF x1 150))).2 := by
    rw [nums_append]
    show (step _ 24).2 ++ (run (step _ 24).1 _).2 = _
    rw [e1]
    rfl
  have hz : (⟨#[24]⟩ : ByteArray).size = 1 := rfl
  unfold tidewracklaw07_SeqAnew
  rw [awake_take K (by omega), Bool.not_true, cond_false, show (150 : Int) = ((150 : Nat) : Int) from rfl, cut_eq, bS, feed0 K (by omega) _ (by omega), bS, cut_eq, bS, if_pos (by omega), feedT K (by omega) _ ho _ (by rw [app_size]; omega), bS, read_eq K (by omega) _ (by omega) s' e2 e3, bS, cE]
  have hi := is_eq K (by omega) _ hok (by omega) (by omega)
  generalize hE : (run s' (numsOf (cutF x1 150))).2 = E at *
  rw [er, List.length_map, w64 (x := (E.length : Int) + 1) (by omega) (by omega)]
  rcases e4 with rfl | rfl
  · rw [List.nil_append]
    dsimp only
    rw [if_neg (by omega)]
    unfold tidewracklaw07_SeqAnew_j1
    rw [cond_false]
    dsimp only
    rw [hi, bS]
  · rw [if_pos (by simp), if_pos (by simp)]
    show (bif (1 : Int) == 1 then tidewracklaw07_SeqAnew_j1 K _ _ ((65533 : Int) == 65533) else _) = _
    rw [show ((1 : Int) == 1) = true from rfl, show ((65533 : Int) == 65533) = true from rfl, cond_true]
    unfold tidewracklaw07_SeqAnew_j1
    dsimp only
    rw [cond_true, if_pos (by simp; omega), List.take_of_length_le (Nat.le_refl _)]
    show Option.bind (tidewracklaw07_Is K E (E.map conv)) _ = _
    rw [hi, bS]
/-! ### SeqBounds -/
theorem bounds_l5 (t : List T37 × T30) (x : Int) (lp : Int → Option Bool) (N : List Int) (hN : (rdD zT37 t.1 x).Nums = N) (hl : N.length ≤ 16) (hm : ∀ y ∈ N, 0 ≤ y ∧ y ≤ 9999) : ∀ (k j : Nat), N.length < k + j → j ≤ N.length → tidewracklaw07_SeqBounds_l5 t x lp k j = tidewracklaw07_SeqBounds_j3 x lp
  | 0, j, h1, h2 => by omega
  | k + 1, j, h1, h2 => by
    have ih := bounds_l5 t x lp N hN hl hm k
    unfold tidewracklaw07_SeqBounds_l5
    rw [cD, hN]
    by_cases c : j < N.length
    · have hw : IntKind.wrap .i64 ((j : Int) + 1) = ((j + 1 : Nat) : Int) := by rw [w64 (by omega) (by omega)]; omega
      have := hm N[j] (List.getElem_mem _)
      rw [if_pos (by omega), if_pos (by omega), rdD_get _ _ c, cD, if_neg (by omega), cD, if_neg (by omega), hw]
      exact ih (j + 1) (by omega) (by omega)
    · rw [if_neg (by omega)]
theorem bounds_l2 (K : Nat) (hK : 20 ≤ K) (t : List T37 × T30) (hok : ∀ a ∈ t.1, okE a) (hl : t.1.length ≤ 10000) : ∀ (k i : Nat), t.1.length < k + i → i ≤ t.1.length → tidewracklaw07_SeqBounds_l2 K t k i = some true
  | 0, i, h1, h2 => by omega
  | k + 1, i, h1, h2 => by
    have ih := bounds_l2 K hK t hok hl k
    unfold tidewracklaw07_SeqBounds_l2
    rw [cD]
    by_cases c : i < t.1.length
    · have hw : IntKind.wrap .i64 ((i : Int) + 1) = ((i + 1 : Nat) : Int) := by rw [w64 (by omega) (by omega)]; omega
      have ho := hok t.1[i] (List.getElem_mem _)
      have j4 : tidewracklaw07_SeqBounds_j4 K t i (tidewracklaw07_SeqBounds_l2 K t k) = some true := by
        unfold tidewracklaw07_SeqBounds_j4
        have := bounds_l5 t i (tidewracklaw07_SeqBounds_l2 K t k) t.1[i].Nums (by rw [rdD_get _ _ c]) ho.n ho.m K 0 (by have := ho.n; omega) (by omega)
        rw [show ((0 : Nat) : Int) = 0 from rfl] at this
        rw [this]
        unfold tidewracklaw07_SeqBounds_j3
        rw [hw]
        exact ih (i + 1) (by omega) (by omega)
      rw [j4, rdD_get _ _ c]
      have hk := ho.k; have hn := ho.n; have ht := ho.t
      rw [if_pos (by omega), if_pos (by omega), cD, if_neg (by omega), cD, if_neg (by omega), cD, if_neg (by omega), cD, if_neg (by omega), cE, cE]
      have h2 : (bif t.1[i].Kind == 2 then (bif decide (t.1[i].Byte ≥ 32) then some false else some true) else some true) = some true := by
        rw [cE]
        split
        · have := ho.c (by assumption)
          rw [cD, if_neg (by omega)]
        · rfl
      rw [h2]
      by_cases a1 : t.1[i].Kind = 1
      · have := ho.p a1
        rw [if_pos a1, cD, if_neg (by have := this.1; omega), if_neg this.2]
      · rw [if_neg a1]
    · rw [if_neg (by omega)]; rfl
theorem SeqBounds (x0 : ByteArray) (w0 : x0.size ≤ 140737488351232) : ∃ K, tidewracklaw07_SeqBounds K x0 = some true := by
  suffices h : ∀ K, 5000 ≤ K → tidewracklaw07_SeqBounds K x0 = some true from ⟨5000, h _ (Nat.le_refl _)⟩
  intro K hK
  have hs := cut_size x0 400
  have hl := evs_len S0 (cutF x0 400)
  unfold tidewracklaw07_SeqBounds
  rw [awake_take K (by omega), Bool.not_true, cond_false, show (400 : Int) = ((400 : Nat) : Int) from rfl, cut_eq, bS, feed0 K (by omega) _ (by omega), bS]
  exact bounds_l2 K (by omega) ((run S0 (numsOf (cutF x0 400))).2, tT (run S0 (numsOf (cutF x0 400))).1 []) (evs_ok Ok.S0 _) (by show (run S0 (numsOf (cutF x0 400))).2.length ≤ 10000; omega) K 0 (by show (run S0 (numsOf (cutF x0 400))).2.length < _; omega) (by omega)
/-! ### SeqParts -/
theorem clone_eq (s : S) (hs : Ok s) : seq_Parser_Clone (tT s []) = some (tT s []) := by
  have := hs.nums
  unfold seq_Parser_Clone slices_Clone
  rw [if_pos (by show 0 + s.nums.length ≤ _; omega), bS, List.nil_append]; rfl
theorem parts_l2 (K : Nat) (hK : 5000 ≤ K) (p1 : List Int) (hp : p1.length ≤ maxLen) (t13 : ByteArray) (ht : t13.size ≤ 200) : ∀ (k i : Nat) (s : S) (l : List T37) (x : ByteArray), p1.length < k + i → i ≤ p1.length → Ok s → x.size ≤ 200 → l.length + 2 * x.size ≤ 400 → (run S0 (numsOf t13)).2 = l ++ (run s (numsOf x)).2 →
    tidewracklaw07_SeqParts_l2 K p1 t13 k s.st s.pv s.wr s.an s.so s.n s.nums s.text s.d.Lead s.d.Rune s.d.Need l x i = some true
  | 0, i, s, l, x, h1, h2, hs, hx, hl, he => by omega
  | k + 1, i, s, l, x, h1, h2, hs, hx, hl, he => by
    have ih := parts_l2 K hK p1 hp t13 ht k
    have hel := evs_len s x
    have hm : maxLen ≤ 9223372036854775807 := by decide
    unfold tidewracklaw07_SeqParts_l2
    rw [cD]
    by_cases c : i < p1.length
    · have hw : IntKind.wrap .i64 ((i : Int) + 1) = ((i + 1 : Nat) : Int) := by rw [w64 (by omega) (by omega)]; omega
      obtain ⟨n, hn, hb⟩ := and_le (rdD 0 p1 i) 15 (by decide)
      rw [show ((15 : Nat) : Int) = 15 from rfl] at hb
      have hq : ∃ q : Nat, q ≤ x.size ∧ mnI (IntKind.wrap .i64 (1 + (n : Int))) (x.size : Int) = (q : Int) := by
        rw [w64 (by omega) (by omega)]
        unfold mnI
        split
        · exact ⟨x.size, Nat.le_refl _, rfl⟩
        · exact ⟨1 + n, by omega, by omega⟩
      obtain ⟨q, hq1, hq2⟩ := hq
      have hf : ∀ t : ByteArray, t.size ≤ 1000 → seq_Parser_Feed K (⟨s.st, s.pv, s.wr, s.an, s.so, s.n, s.nums, s.text, s.d.Lead, s.d.Rune, s.d.Need, ([] : List T37)⟩ : T30) t = some ((run s (numsOf t)).2, tT (run s (numsOf t)).1 []) := fun t ht => feed_eq K (by omega) s hs t ht
      have hc : seq_Parser_Clone (⟨s.st, s.pv, s.wr, s.an, s.so, s.n, s.nums, s.text, s.d.Lead, s.d.Rune, s.d.Need, ([] : List T37)⟩ : T30) = some (tT s []) := clone_eq s hs
      have hxs : (x.extract 0 q).size = q := by rw [ext_size]; omega
      have ho : Ok (run s (numsOf (x.extract 0 q))).1 := ok_run _ hs (numsOf_bytes _)
      have hel2 := evs_len s (x.extract 0 q)
      rw [if_pos (by omega), if_pos (by omega), hc, bS, hb, hq2, if_pos (by omega), if_pos (by omega), Int.toNat_natCast, hf _ (by omega), bS, feed_eq K (by omega) s hs _ (by omega), bS, cN, if_pos rfl, feedT K (by omega) _ ho _ (by decide), bS, if_pos (by show l.length + (run s (numsOf (x.extract 0 q))).2.length ≤ _; omega), hw]
      have hsplit : numsOf x = numsOf (x.extract 0 q) ++ numsOf (x.extract q x.size) := by
        rw [nums_extract, nums_extract, List.drop_zero, List.take_of_length_le (i := x.size) (by rw [numsOf_len]; omega), List.take_append_drop]
      refine ih (i + 1) (run s (numsOf (x.extract 0 q))).1 (l ++ (run s (numsOf (x.extract 0 q))).2) (x.extract q x.size) (by omega) (by omega) ho (by rw [ext_size]; omega) ?_ ?_
      · rw [List.length_append, ext_size]; omega
      · rw [he, hsplit, run_append, List.append_assoc]
    · rw [if_neg (by omega)]
      unfold tidewracklaw07_SeqParts_j1
      have hf : seq_Parser_Feed K (⟨s.st, s.pv, s.wr, s.an, s.so, s.n, s.nums, s.text, s.d.Lead, s.d.Rune, s.d.Need, ([] : List T37)⟩ : T30) x = some ((run s (numsOf x)).2, tT (run s (numsOf x)).1 []) := feed_eq K (by omega) s hs x (by omega)
      have hl0 := evs_len S0 t13
      rw [hf, bS, if_pos (by show l.length + (run s (numsOf x)).2.length ≤ _; omega), read_eq K (by omega) t13 (by omega) S0 rfl rfl, bS]
      show Option.bind (tidewracklaw07_Is K (l ++ (run s (numsOf x)).2) _) _ = _
      rw [← he, is_eq K (by omega) _ (evs_ok Ok.S0 _) (by omega) (by omega), bS]
theorem SeqParts (x0 : ByteArray) (w0 : x0.size ≤ 140737488351232) (x1 : List Int) (w1 : ∀ y ∈ x1, (WF.wfi64) y) (l1 : x1.length ≤ maxLen) : ∃ K, tidewracklaw07_SeqParts K x0 x1 = some true := by
  suffices h : ∀ K, 5000 + x1.length ≤ K → tidewracklaw07_SeqParts K x0 x1 = some true from ⟨5000 + x1.length, h _ (Nat.le_refl _)⟩
  intro K hK
  have hs := cut_size x0 200
  unfold tidewracklaw07_SeqParts
  rw [awake_take K (by omega), Bool.not_true, cond_false, show (200 : Int) = ((200 : Nat) : Int) from rfl, cut_eq, bS]
  exact parts_l2 K (by omega) x1 l1 (cutF x0 200) hs K 0 S0 [] (cutF x0 200) (by omega) (by omega) Ok.S0 hs (by simp; omega) (by simp)
/-! ### SeqPrints -/
theorem encF_pr {r : Int} (h : Pr r) : ∀ c ∈ encF r, Pr c := by
  have hf : Pr (fixR r) ∧ 0 ≤ fixR r ∧ fixR r ≤ 1114111 := by
    have := h.1; have := h.2
    unfold fixR Pr; split <;> omega
  obtain ⟨⟨f1, f2⟩, f3, f4⟩ := hf
  unfold encF encB
  generalize fixR r = x at *
  split
  · intro c hc; rw [List.mem_singleton.1 hc]; exact ⟨f1, f2⟩
  · split
    · intro c hc; simp at hc; unfold Pr; omega
    · split
      · intro c hc; simp at hc; unfold Pr; omega
      · intro c hc; simp at hc; unfold Pr; omega
structure Q (l : List T47) (r : List Int) (n : Nat) : Prop where
  e : l = ((r.map fixR).map prt).map conv
  p : ∀ x ∈ r, Pr x
  n : r.length ≤ n
theorem Q.add {l : List T47} {r : List Int} {n : Nat} (h : Q l r n) {x : Int} (hx : Pr x) : Q (l ++ [⟨1, fixR x, 0, false, [], ⟨#[]⟩⟩]) (r ++ [x]) (n + 1) := by
  refine ⟨?_, ?_, ?_⟩
  · rw [h.e]; simp [prt, conv]
  · intro y hy
    rcases List.mem_append.1 hy with hy | hy
    · exact h.p y hy
    · rw [List.mem_singleton.1 hy]; exact hx
  · rw [List.length_append, List.length_singleton]; have := h.n; omega
theorem Q.le {l : List T47} {r : List Int} {n m : Nat} (h : Q l r n) (hm : n ≤ m) : Q l r m := ⟨h.e, h.p, by have := h.n; omega⟩
theorem prints_j2 (K : Nat) (hK : 5000 ≤ K) (l : List T47) (r : List Int) (h : Q l r 80) : tidewracklaw07_SeqPrints_j2 K l r = some true := by
  have hn := h.n
  have hsz := str_size (r.flatMap encF)
  have hen := encs_len r
  unfold tidewracklaw07_SeqPrints_j2
  rw [penc_eq K r (by omega) (by omega), bS, feed0 K (by omega) _ (by omega), bS]
  have hrun : (run S0 (numsOf (strOfNums (r.flatMap encF)))).2 = (r.map fixR).map prt := by
    rw [nums_str _ (encs_bytes r), run_ground _ S0 rfl, dec_encs]
    intro c hc
    obtain ⟨x, hx, hc⟩ := List.mem_flatMap.1 hc
    exact encF_pr (h.p x hx) c hc
  have hok := evs_ok Ok.S0 (strOfNums (r.flatMap encF))
  rw [hrun] at hok
  dsimp only
  rw [hrun, h.e, is_eq K (by omega) _ hok (by simp; omega) (by simp; omega), bS]
theorem fix_small {x : Int} (h : 0 ≤ x) (h1 : x < 256) : fixR x = x := by unfold fixR; rw [if_neg (by omega)]
theorem prints_l3 (K : Nat) (hK : 5000 ≤ K) (p1 : ByteArray) : ∀ (k i : Nat) (l : List T47) (r : List Int), min 50 p1.size < k + i → i ≤ min 50 p1.size → Q l r (30 + i) → tidewracklaw07_SeqPrints_l3 K p1 k l r i = some true
  | 0, i, l, r, h1, h2, h => by omega
  | k + 1, i, l, r, h1, h2, h => by
    have ih := prints_l3 K hK p1 k
    have hn := h.n
    have hle : l.length = r.length := by rw [h.e]; simp
    unfold tidewracklaw07_SeqPrints_l3
    rw [cD, cD]
    have hend := prints_j2 K hK l r (h.le (by omega))
    by_cases c : i < p1.size
    · rw [if_pos (by omega)]
      by_cases c2 : i < 50
      · have hw : IntKind.wrap .i64 ((i : Int) + 1) = ((i + 1 : Nat) : Int) := by rw [w64 (by omega) (by omega)]; omega
        have hb := bt_range p1 i c
        rw [if_pos (by omega)]
        unfold tidewracklaw07_SeqPrints_j4
        rw [if_pos (by omega), cD]
        have h5 : ∀ y : Bool, (y = true → 32 ≤ bt p1 i ∧ bt p1 i < 127) → tidewracklaw07_SeqPrints_j5 p1 l r i (tidewracklaw07_SeqPrints_l3 K p1 k) y = some true := by
          intro y hy
          unfold tidewracklaw07_SeqPrints_j5
          cases y with
          | false => rw [cond_false, hw]; exact ih (i + 1) l r (by omega) (by omega) (h.le (by omega))
          | true =>
            have hh := hy rfl
            rw [cond_true, if_pos (by omega), if_pos (by simp; omega), if_pos (by simp; omega), hw, w32 (by omega) (by omega), w64 (by omega) (by omega)]
            have := h.add (x := bt p1 i) ⟨hh.1, by omega⟩
            rw [fix_small hb.1 hb.2] at this
            exact ih (i + 1) _ _ (by omega) (by omega) this
        by_cases a : bt p1 i ≥ 32
        · rw [if_pos a]; exact h5 _ (fun hh => ⟨a, by simpa using hh⟩)
        · rw [if_neg a]; exact h5 _ (fun hh => by cases hh)
      · rw [if_neg (by omega)]; exact hend
    · rw [if_neg (by omega)]; exact hend
theorem prints_l6 (K : Nat) (hK : 5000 ≤ K) (p0 : List Int) (hp : ∀ y ∈ p0, (WF.wfi32) y) (p1 : ByteArray) : ∀ (k i : Nat) (l : List T47) (r : List Int), min 30 p0.length < k + i → i ≤ min 30 p0.length → Q l r i → tidewracklaw07_SeqPrints_l6 K p0 p1 k l r i = some true
  | 0, i, l, r, h1, h2, h => by omega
  | k + 1, i, l, r, h1, h2, h => by
    have ih := prints_l6 K hK p0 hp p1 k
    have hn := h.n
    have hle : l.length = r.length := by rw [h.e]; simp
    unfold tidewracklaw07_SeqPrints_l6
    rw [cD, cD]
    have hend : tidewracklaw07_SeqPrints_j1 K p1 l r = some true := by
      unfold tidewracklaw07_SeqPrints_j1
      exact prints_l3 K hK p1 K 0 l r (by omega) (by omega) (h.le (by omega))
    by_cases c : i < p0.length
    · rw [if_pos (by omega)]
      by_cases c2 : i < 30
      · have hw : IntKind.wrap .i64 ((i : Int) + 1) = ((i + 1 : Nat) : Int) := by rw [w64 (by omega) (by omega)]; omega
        have hb := wf32 (hp p0[i] (List.getElem_mem _))
        rw [if_pos (by omega)]
        unfold tidewracklaw07_SeqPrints_j7
        rw [if_pos (by omega), cD, rdD_get _ _ c]
        have h8 : ∀ y : Bool, (y = true → Pr p0[i]) → tidewracklaw07_SeqPrints_j8 K p0 l r i (tidewracklaw07_SeqPrints_l6 K p0 p1 k) y = some true := by
          intro y hy
          unfold tidewracklaw07_SeqPrints_j8
          cases y with
          | false => rw [cond_false, hw]; exact ih (i + 1) l r (by omega) (by omega) (h.le (by omega))
          | true =>
            have hh := hy rfl
            have hes := enc_bytes p0[i]
            obtain ⟨left, r1, _, _⟩ := runes_eq K (by omega) (strOfNums (encF p0[i])) (by rw [str_size]; omega)
            rw [nums_str _ hes.1, dec_encF] at r1
            rw [cond_true, rdD_get _ _ c, w64 (by omega) (by omega), renc_eq, bS, r1, bS, if_pos (by simp; omega), if_pos (by simp), if_pos (by simp; omega), hw]
            exact ih (i + 1) _ _ (by omega) (by omega) (h.add hh)
        by_cases a : p0[i] ≥ 32
        · rw [if_pos a]; exact h8 _ (fun hh => ⟨a, by simpa using hh⟩)
        · rw [if_neg a]; exact h8 _ (fun hh => by cases hh)
      · rw [if_neg (by omega)]; exact hend
    · rw [if_neg (by omega)]; exact hend
theorem SeqPrints (x0 : List Int) (w0 : ∀ y ∈ x0, (WF.wfi32) y) (l0 : x0.length ≤ maxLen) (x1 : ByteArray) (w1 : x1.size ≤ 140737488351232) : ∃ K, tidewracklaw07_SeqPrints K x0 x1 = some true := by
  suffices h : ∀ K, 5000 ≤ K → tidewracklaw07_SeqPrints K x0 x1 = some true from ⟨5000, h _ (Nat.le_refl _)⟩
  intro K hK
  unfold tidewracklaw07_SeqPrints
  rw [awake_take K (by omega), Bool.not_true, cond_false]
  exact prints_l6 K hK x0 w0 x1 K 0 [] [] (by omega) (by omega) ⟨rfl, by simp, by simp⟩
end Go.Proofs.YthddmlhmejnhlaaDoor.Pure
