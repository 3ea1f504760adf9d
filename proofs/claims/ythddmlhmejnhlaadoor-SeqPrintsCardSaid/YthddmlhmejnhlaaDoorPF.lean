/- Plain laws: what the plain functions answer, with no program in sight. -/
import Derived.Test.YthddmlhmejnhlaaDoorPE
set_option linter.unusedVariables false
set_option linter.unusedSimpArgs false
namespace Go.Proofs.YthddmlhmejnhlaaDoor.Pure
open Go Go.Proofs.XC Go.Proofs.YthddmlhmejnhlaaDoor

def Pr (c : Int) : Prop := 32 ≤ c ∧ c ≠ 127
theorem run_ground : ∀ (l : List Int) (s : S), s.st = 0 → (∀ c ∈ l, Pr c) → run s l = ({s with d := (dec s.d l).1}, (dec s.d l).2.map prt)
  | [], s, h, hp => rfl
  | c :: r, s, h, hp => by
    have hc : Pr c := hp c (by simp)
    have e : step s c = ({s with d := (nextF s.d c).1}, (nextF s.d c).2.map prt) := by
      unfold step gndF
      rw [if_pos h, if_neg (by have := hc.1; have := hc.2; omega)]
    unfold run dec
    rw [e, run_ground r {s with d := (nextF s.d c).1} h (fun x hx => hp x (by simp [hx])), List.map_append]
theorem run_ctl (s : S) (p0 : ByteArray) (i : Nat) (hi : i < p0.size) (h0 : s.st = 0) (hb : bt p0 i < 32 ∨ bt p0 i = 127) :
    (run s ((numsOf p0).drop i)).2 = (endF s.d).map prt ++ (run {s with d := Z} ((numsOf p0).drop i)).2 := by
  rw [run_cons s p0 i hi, run_cons {s with d := Z} p0 i hi]
  have e1 : step s (bt p0 i) = ((comF {s with d := Z} (bt p0 i)).2.1, (endF s.d).map prt ++ (comF {s with d := Z} (bt p0 i)).2.2) := by
    unfold step gndF
    rw [if_pos h0, if_pos hb]
  have e2 : step {s with d := Z} (bt p0 i) = (comF {s with d := Z} (bt p0 i)).2 := step_com _ _ rfl (by show 0 ≤ s.st; omega) (by show s.st ≤ 3; omega) hb
  rw [e1, e2, List.append_assoc]
theorem scan (K : Nat) (p0 : ByteArray) (hp : p0.size ≤ 400) (l : List T47) (m : Int) (x : Int) (body : ByteArray) (lp : List T47 → Int → Int → ByteArray → Option (List T47)) : ∀ (k j : Nat), p0.size < k + j → j ≤ p0.size →
    ∃ j', j ≤ j' ∧ j' ≤ p0.size ∧ tidewrackref07_Read_l8 K p0 l m x body lp k j = tidewrackref07_Read_j7 K p0 l m x body lp (j' : Nat) ∧ (∀ t : Nat, j ≤ t → t < j' → Pr (bt p0 t)) ∧ (j' < p0.size → bt p0 j' < 32 ∨ bt p0 j' = 127)
  | 0, j, h1, h2 => by omega
  | k + 1, j, h1, h2 => by
    have ih := scan K p0 hp l m x body lp k
    unfold tidewrackref07_Read_l8
    rw [cD]
    by_cases c : j < p0.size
    · have hw : IntKind.wrap .i64 ((j : Int) + 1) = ((j + 1 : Nat) : Int) := by rw [w64 (by omega) (by omega)]; omega
      rw [if_pos (by omega), if_pos (by omega), cD, cN, hw]
      by_cases a : bt p0 j ≥ 32
      · rw [if_pos a]
        by_cases a1 : bt p0 j = 127
        · rw [if_pos a1]
          exact ⟨j, Nat.le_refl _, h2, rfl, fun t h3 h4 => by omega, fun _ => .inr a1⟩
        · rw [if_neg a1]
          obtain ⟨j', e1, e2, e3, e4, e5⟩ := ih (j + 1) (by omega) (by omega)
          refine ⟨j', by omega, e2, e3, fun t h3 h4 => ?_, e5⟩
          by_cases ht : t = j
          · subst ht; exact ⟨a, a1⟩
          · exact e4 t (by omega) h4
      · rw [if_neg a]
        exact ⟨j, Nat.le_refl _, h2, rfl, fun t h3 h4 => by omega, fun _ => .inl (by omega)⟩
    · rw [if_neg (by omega)]
      exact ⟨j, Nat.le_refl _, h2, rfl, fun t h3 h4 => by omega, fun h => by omega⟩
theorem read_loop (K : Nat) (hK : 1005 ≤ K) (p0 : ByteArray) (hp : p0.size ≤ 400) : ∀ (k i : Nat) (s : S) (m : Int) (body : ByteArray) (l : List T47), p0.size < k + i → i ≤ p0.size → Rel s m body → l.length ≤ 3 * i → body.size ≤ i →
    tidewrackref07_Read_l2 K p0 k l m i body = some (l ++ ((run s ((numsOf p0).drop i)).2).map conv)
  | 0, i, s, m, body, l, h1, h2, h3, h4, h5 => by omega
  | k + 1, i, s, m, body, l, h1, h2, h3, h4, h5 => by
    have ih := read_loop K hK p0 hp k
    have hn := numsOf_len p0
    unfold tidewrackref07_Read_l2
    rw [cD, cE]
    by_cases c : i < p0.size
    · rw [if_pos (by omega)]
      have H : ∀ i', i ≤ i' → ∀ (s : S) (m : Int) (body : ByteArray) (l : List T47) (j : Nat), i' < j → j ≤ p0.size → Rel s m body → l.length ≤ 3 * j → body.size ≤ j → tidewrackref07_Read_l2 K p0 k l m j body = some (l ++ ((run s ((numsOf p0).drop j)).2).map conv) :=
        fun i' hi' s m body l j a1 a2 a3 a4 a5 => ih j s m body l (by omega) a2 a3 a4 a5
      by_cases h0 : m = 0
      · rw [if_pos h0]
        obtain ⟨j, e1, e2, e3, e4, e5⟩ := scan K p0 hp l m i body (tidewrackref07_Read_l2 K p0 k) K i (by omega) h2
        rw [e3]
        unfold tidewrackref07_Read_j7
        rw [if_pos (by omega), if_pos (by omega), if_pos (by omega), if_pos (by omega), Int.toNat_natCast, Int.toNat_natCast]
        have hxs : (p0.extract i j).size ≤ 400 := by rw [ext_size]; omega
        obtain ⟨left, r1, r2, r3⟩ := runes_eq K (by omega) (p0.extract i j) hxs
        have hst : numsOf (p0.extract i j) = ((numsOf p0).take j).drop i := nums_extract p0 i j
        have hlen : (numsOf (p0.extract i j)).length = j - i := by rw [numsOf_len, ext_size]; omega
        have hdl := dec_len (numsOf (p0.extract i j)) Z
        rw [hlen] at hdl
        have hprint : ∀ x ∈ numsOf (p0.extract i j), Pr x := by
          intro x hx
          obtain ⟨t, ht, rfl⟩ := List.getElem_of_mem hx
          have : (numsOf (p0.extract i j))[t] = bt p0 ((i + t : Nat) : Int) := by
            simp only [hst, List.getElem_drop, List.getElem_take]
            rw [numsOf_get p0 (i + t) (by omega)]
          rw [this]
          exact e4 (i + t) (by omega) (by omega)
        have hsplit : (numsOf p0).drop i = numsOf (p0.extract i j) ++ (numsOf p0).drop j := by
          rw [hst]
          conv => lhs; rw [← List.take_append_drop j (numsOf p0)]
          rw [List.drop_append_of_le_length (by rw [List.length_take]; omega)]
        have hs0 : s.st = 0 := h3.hm.trans h0
        have hrun : (run s ((numsOf p0).drop i)).2 = (dec Z (numsOf (p0.extract i j))).2.map prt ++ (run {s with d := (dec Z (numsOf (p0.extract i j))).1} ((numsOf p0).drop j)).2 := by
          rw [hsplit, run_append, run_ground _ s hs0 hprint, h3.d]
        have hse : ({s with d := Z} : S) = s := by rw [← h3.d]
        rw [r1, bS]
        dsimp only
        rw [prints_eq K _ (by omega) (by omega), bS, if_pos (by simp; omega), cE, cD]
        by_cases hj : j = p0.size
        · rw [if_pos (by omega), hrun, List.drop_eq_nil_of_le (by omega)]
          simp [run]
        · rw [if_neg (by omega)]
          have hjl : j < p0.size := by omega
          have hctl := e5 hjl
          have hrc := run_ctl {s with d := (dec Z (numsOf (p0.extract i j))).1} p0 j hjl hs0 hctl
          rw [hrun, hrc]
          show (if left > 0 then _ else _) = some (l ++ List.map conv (_ ++ ((endF (dec Z (numsOf (p0.extract i j))).1).map prt ++ (run {s with d := Z} _).2)))
          rw [hse]
          unfold endF
          by_cases hl : left > 0
          · have := r3.1 hl
            rw [if_pos hl, if_pos (by simp; omega), if_neg (by omega)]
            have := j3_eq K hK p0 hp _ j hjl (H j e1) s m body ((l ++ ((dec Z (numsOf (p0.extract i j))).2.map prt).map conv) ++ [⟨1, 65533, 0, false, [], ⟨#[]⟩⟩]) h3 (fun _ => hctl) (by simp; omega) (by omega)
            rw [this, List.map_append, List.append_assoc, List.append_assoc, List.map_append]
            rfl
          · have : ¬ (dec Z (numsOf (p0.extract i j))).1.Need > 0 := fun h => hl (r3.2 h)
            rw [if_neg hl, if_pos (by omega)]
            have := j3_eq K hK p0 hp _ j hjl (H j e1) s m body (l ++ ((dec Z (numsOf (p0.extract i j))).2.map prt).map conv) h3 (fun _ => hctl) (by simp; omega) (by omega)
            rw [this, List.map_append, List.append_assoc]
            rfl
      · rw [if_neg h0]
        exact j3_eq K hK p0 hp _ i c (H i (Nat.le_refl _)) s m body l h3 (fun h => absurd h h0) (by omega) h5
    · rw [if_neg (by omega), List.drop_eq_nil_of_le (by omega)]
      unfold tidewrackref07_Read_j1
      simp [run]
theorem read_eq (K : Nat) (hK : 1005 ≤ K) (t : ByteArray) (ht : t.size ≤ 400) (s : S) (h0 : s.st = 0) (hd : s.d = Z) : tidewrackref07_Read K t = some (((run s (numsOf t)).2).map conv) := by
  have := read_loop K hK t ht K 0 s 0 ⟨#[]⟩ [] (by omega) (by omega) ⟨h0, by omega, by omega, hd, fun h => by omega, fun h => by omega⟩ (by simp) (Nat.zero_le _)
  rw [List.drop_zero, List.nil_append] at this
  exact this
/-! ### What an action may hold -/
structure okE (a : T37) : Prop where
  k : 1 ≤ a.Kind ∧ a.Kind ≤ 5
  r : 0 ≤ a.Rune ∧ a.Rune ≤ 1114111
  b : 0 ≤ a.Byte ∧ a.Byte < 256
  n : a.Nums.length ≤ 16
  m : ∀ x ∈ a.Nums, 0 ≤ x ∧ x ≤ 9999
  t : a.Text.size ≤ 198
  p : a.Kind = 1 → Pr a.Rune
  c : a.Kind = 2 → a.Byte < 32
theorem Inv.two {d : T27} (h : Inv d) (h1 : d.Need = 1) : 2 ≤ d.Rune := by
  rcases h with rfl | ⟨hl, h⟩
  · simp at h1
  · rcases h with ⟨e1, e2⟩ | ⟨e1, e2, e3⟩ | ⟨e1, e2, e3⟩
    · rw [h1] at e1 e2
      rcases lead_cases _ hl with ⟨a, b, e⟩ | ⟨a, e⟩ | ⟨a, b, e⟩ | ⟨a, e⟩ | ⟨a, b, e⟩ | ⟨a, e⟩ | ⟨a, b, e⟩ | ⟨a, e⟩ <;> rw [e] at e1 <;> simp at e1
      unfold msk at e2
      rw [if_pos rfl] at e2
      omega
    · exact e3.1
    · omega
theorem begin_pr (c : Int) (h : Pr c) : ∀ x ∈ (beginF c).2, Pr x := by
  unfold beginF
  split
  · intro x hx; rw [List.mem_singleton.1 hx]; exact h
  · split
    · intro x hx; rw [List.mem_singleton.1 hx]; exact ⟨by omega, by omega⟩
    · intro x hx; cases hx
theorem next_pr {d : T27} (hd : Inv d) (c : Int) (h : Pr c) : ∀ x ∈ (nextF d c).2, Pr x := by
  unfold nextF
  split
  · exact begin_pr c h
  · split
    · split
      · rename_i h1
        have := hd.two h1
        intro x hx; rw [List.mem_singleton.1 hx]; exact ⟨by omega, by omega⟩
      · intro x hx; cases hx
    · intro x hx
      rcases List.mem_cons.1 hx with rfl | hx
      · exact ⟨by omega, by omega⟩
      · exact begin_pr c h x hx
theorem okE_prt {x : Int} (h : Pr x) (hv : valid x) : okE (prt x) := ⟨by simp [prt], ⟨hv.1, hv.2.1⟩, by simp [prt], by simp [prt], by simp [prt], Nat.zero_le _, fun _ => h, by simp [prt]⟩
theorem okE_com (s : S) (b : Int) (h0 : 0 ≤ b) : ∀ a ∈ (comF s b).2.2, okE a := by
  unfold comF; split
  · intro a ha; cases ha
  · split
    · intro a ha; cases ha
    · split
      · intro a ha; rw [List.mem_singleton.1 ha]
        exact ⟨by simp [ctl], by simp [ctl], ⟨h0, by show b < 256; omega⟩, by simp [ctl], by simp [ctl], Nat.zero_le _, by simp [ctl], fun _ => by show b < 32; omega⟩
      · intro a ha; cases ha
theorem okE_ord {b : Int} {pv : Bool} {ns : List Int} (h0 : 0 ≤ b) (h1 : b < 256) (hn : ns.length ≤ 16) (hm : ∀ x ∈ ns, 0 ≤ x ∧ x ≤ 9999) : okE (ord b pv ns) := ⟨by simp [ord], by simp [ord], ⟨h0, h1⟩, hn, hm, Nat.zero_le _, by simp [ord], by simp [ord]⟩
theorem okE_esc {b : Int} (h0 : 0 ≤ b) (h1 : b < 256) : okE (esc b) := ⟨by simp [esc], by simp [esc], ⟨h0, h1⟩, by simp [esc], by simp [esc], Nat.zero_le _, by simp [esc], by simp [esc]⟩
theorem okE_titles {t : ByteArray} (h : t.size ≤ 200) : ∀ a ∈ titles t, okE a := by
  have hk : okE (ttl (t.extract 2 t.size)) := ⟨by simp [ttl], by simp [ttl], by simp [ttl], by simp [ttl], by simp [ttl], by show (t.extract 2 t.size).size ≤ 198; rw [ext_size]; omega, by simp [ttl], by simp [ttl]⟩
  unfold titles
  intro a ha
  rcases List.mem_append.1 ha with ha | ha
  · split at ha
    · rw [List.mem_singleton.1 ha]; exact hk
    · cases ha
  · split at ha
    · rw [List.mem_singleton.1 ha]; exact hk
    · cases ha
theorem okE_escF {s : S} (h : Ok s) (b : Int) (h0 : 0 ≤ b) (h1 : b < 256) : ∀ a ∈ (escF s b).2, okE a := by
  unfold escF; split
  · exact okE_com s b h0
  · split
    · intro a ha; cases ha
    · split
      · intro a ha; cases ha
      · split
        · intro a ha; cases ha
        · split
          · intro a ha; rw [List.mem_singleton.1 ha]; exact okE_esc h0 h1
          · intro a ha; cases ha
theorem okE_step {s : S} (h : Ok s) (b : Int) (h0 : 0 ≤ b) (h1 : b < 256) : ∀ a ∈ (step s b).2, okE a := by
  unfold step; split
  · unfold gndF; split
    · intro a ha
      rcases List.mem_append.1 ha with ha | ha
      · obtain ⟨x, hx, rfl⟩ := List.mem_map.1 ha
        unfold endF at hx; split at hx
        · cases hx
        · rw [List.mem_singleton.1 hx]; exact okE_prt ⟨by omega, by omega⟩ (by simp [valid])
      · exact okE_com _ b h0 a ha
    · intro a ha
      obtain ⟨x, hx, rfl⟩ := List.mem_map.1 ha
      exact okE_prt (next_pr h.d b ⟨by omega, by omega⟩ x hx) ((next_inv _ _ h.d h0 h1).2 x hx)
  · rename_i hs; have hz := h.z hs
    split
    · exact okE_escF h b h0 h1
    · split
      · unfold skpF; split
        · exact okE_com s b h0
        · split <;> (intro a ha; cases ha)
      · split
        · unfold cmdF; split
          · exact okE_com s b h0
          · split
            · have hp := ok_psh (s := {s with an := true}) ⟨h.1, h.2, h.3, h.4, h.5, h.6, h.7⟩
              unfold finF; split
              · intro a ha; cases ha
              · split
                · intro a ha; rw [List.mem_singleton.1 ha]; exact okE_ord h0 h1 hp.nums hp.all
                · intro a ha; rw [List.mem_singleton.1 ha]; exact okE_ord h0 h1 h.nums h.all
            · intro a ha; cases ha
        · split
          · unfold titF; split
            · exact okE_titles h.text
            · unfold titG; split
              · intro a ha; cases ha
              · split
                · intro a ha; cases ha
                · split <;> (intro a ha; cases ha)
          · split
            · exact okE_titles h.text
            · exact okE_escF (ok_st h hz 1) b h0 h1
theorem okE_run : ∀ (l : List Int) {s : S}, Ok s → Bytes l → ∀ a ∈ (run s l).2, okE a
  | [], s, h, _ => by intro a ha; cases ha
  | b :: r, s, h, hb => by
    have h0 := hb b (by simp)
    intro a ha
    rcases List.mem_append.1 ha with ha | ha
    · exact okE_step h b h0.1 h0.2 a ha
    · exact okE_run r (ok_step h b h0.1 h0.2) (fun x hx => hb x (by simp [hx])) a ha
/-! ### Is -/
theorem is_loop (K : Nat) (hK : 100 < K) (a : List T37) (ha : ∀ x ∈ a, okE x) (hl : a.length ≤ 100000) : ∀ (k i : Nat), a.length < k + i → i ≤ a.length → tidewracklaw07_Is_l2 K a (a.map conv) k i = some true
  | 0, i, h1, h2 => by omega
  | k + 1, i, h1, h2 => by
    have ih := is_loop K hK a ha hl k
    unfold tidewracklaw07_Is_l2
    rw [cD, List.length_map]
    by_cases c : i < a.length
    · have hw : IntKind.wrap .i64 ((i : Int) + 1) = ((i + 1 : Nat) : Int) := by rw [w64 (by omega) (by omega)]; omega
      have ho := ha a[i] (List.getElem_mem _)
      have hr := ho.r; have hb := ho.b
      rw [if_pos (by omega), if_pos (by omega), if_pos (by omega), rdD_get _ _ c, rdD_get _ _ (by rw [List.length_map]; exact c), List.getElem_map, hw, w64 (x := a[i].Rune) (by omega) (by omega), w64 (x := a[i].Byte) (by omega) (by omega)]
      rw [cN, if_pos (show a[i].Kind = (conv a[i]).Kind from rfl), cN, if_pos (show a[i].Rune = (conv a[i]).Rune from rfl), cN, if_pos (show a[i].Byte = (conv a[i]).Byte from rfl)]
      rw [show (!(a[i].Private == (conv a[i]).Private)) = false by show (!(a[i].Private == a[i].Private)) = false; simp, cond_false]
      show Option.bind (tidewracklaw01_Same K a[i].Nums a[i].Nums) _ = _
      rw [same_eq K _ _ (fun x hx => by have := ho.m x hx; omega) (by have := ho.n; omega) (by have := ho.n; omega), bS, decide_eq_true rfl, cNB, if_pos rfl]
      show (bif !(ByteArray.toList a[i].Text == ByteArray.toList a[i].Text) then _ else _) = _
      rw [cSN, if_pos rfl]
      exact ih (i + 1) (by omega) (by omega)
    · rw [if_neg (by omega)]; rfl
theorem is_eq (K : Nat) (hK : 100 < K) (a : List T37) (ha : ∀ x ∈ a, okE x) (hl : a.length ≤ 100000) (hK2 : a.length < K) : tidewracklaw07_Is K a (a.map conv) = some true := by
  unfold tidewracklaw07_Is
  rw [cN, List.length_map, if_pos rfl]
  exact is_loop K hK a ha hl K 0 (by omega) (by omega)
/-! ### Awake -/
theorem awake_run : (run S0 (numsOf (⟨#[97, 27, 91, 51, 49, 59, 109]⟩ : ByteArray))).2 = [prt 97, ord 109 false [31, 0]] := by rfl
theorem awake_eq (K : Nat) (hK : 1005 ≤ K) : tidewracklaw07_awake K = some true := by
  have hf := feed_eq K (by omega) S0 Ok.S0 ⟨#[97, 27, 91, 51, 49, 59, 109]⟩ (by decide)
  rw [awake_run] at hf
  unfold tidewracklaw07_awake
  show Option.bind (seq_Parser_Feed K (tT S0 []) ⟨#[97, 27, 91, 51, 49, 59, 109]⟩) _ = _
  rw [hf, bS]
  show (bif (2 : Int) == 2 then (if (0 : Int) ≤ 0 ∧ (0 : Int) < 2 then (bif (1 : Int) == 1 then (bif (97 : Int) == 97 then (if (0 : Int) ≤ 1 ∧ (1 : Int) < 2 then (bif (4 : Int) == 4 then (bif (109 : Int) == 109 then (Option.bind (tidewracklaw01_Same K [31, 0] [31, 0]) fun t => some t) else some false) else some false) else none) else some false) else some false) else none) else some false) = _
  rw [same_eq K _ _ (by intro x hx; simp at hx; omega) (by simp) (by simp; omega)]
  simp
end Go.Proofs.YthddmlhmejnhlaaDoor.Pure
