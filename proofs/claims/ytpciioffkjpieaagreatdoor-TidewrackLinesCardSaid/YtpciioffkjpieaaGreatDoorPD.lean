/- Plain laws: what the plain functions answer, with no program in sight. -/
import Derived.Test.YtpciioffkjpieaaGreatDoorPC
set_option linter.unusedVariables false
set_option linter.unusedSimpArgs false
namespace Go.Proofs.YtpciioffkjpieaaGreatDoor.Pure
open Go Go.Proofs.XC Go.Proofs.YtpciioffkjpieaaGreatDoor

/-! ### The book -/
abbrev BS := List (List Int) × List Int
def addP (s : BS) (p : List Int × Bool) : BS := bif p.2 then (s.1, s.2 ++ p.1) else (s.1 ++ [s.2 ++ p.1], [])
def foldP (s : BS) (E : Lg) : BS := E.foldl addP s
def chars : Lg → Nat
  | [] => 0
  | p :: l => p.1.length + chars l
theorem chars_app : ∀ (a b : Lg), chars (a ++ b) = chars a + chars b
  | [], b => by show chars b = 0 + chars b; omega
  | p :: a, b => by
    have ih := chars_app a b
    show p.1.length + chars (a ++ b) = p.1.length + chars a + chars b
    omega
theorem foldP_app (s : BS) (a b : Lg) : foldP s (a ++ b) = foldP (foldP s a) b := List.foldl_append
theorem foldP_len : ∀ (E : Lg) (s : BS), (foldP s E).2.length ≤ s.2.length + chars E ∧ (foldP s E).1.length ≤ s.1.length + E.length
  | [], s => ⟨Nat.le_refl _, Nat.le_refl _⟩
  | p :: E, s => by
    have ih := foldP_len E (addP s p)
    have h1 : (addP s p).2.length ≤ s.2.length + p.1.length ∧ (addP s p).1.length ≤ s.1.length + 1 := by
      unfold addP
      cases p.2
      · simp
      · simp
    show (foldP (addP s p) E).2.length ≤ s.2.length + (p.1.length + chars E) ∧ (foldP (addP s p) E).1.length ≤ s.1.length + (E.length + 1)
    omega
def Gd (n : Nat) (p : List Int × Bool) : Prop := (∀ r ∈ p.1, Ch r) ∧ p.1.length ≤ n ∧ (p.2 = true → p.1.length = n)
structure BkA (b : T60) (s : BS) : Prop where
  l : b.l = s.1.map (·.map gl)
  bg : b.begun = s.2.map gl
  ch : b.chains.length = b.l.length + 1
theorem cut_small (a : List T46) (h : a.length < 1024) : cutF 2 a = ([], a) := by
  unfold cutF
  rw [if_neg (by omega)]
theorem addF_bk {b : T60} {s : BS} (h : BkA b s) (p : List Int × Bool) (hl : s.2.length + p.1.length < 1024) : BkA (addF b (p.1.map gl) p.2) (addP s p) := by
  have hc := cut_small (b.begun ++ p.1.map gl) (by rw [h.bg, List.length_append, List.length_map, List.length_map]; exact hl)
  unfold addF addP
  rw [hc]
  cases p.2 with
  | true =>
    refine ⟨?_, ?_, ?_⟩
    · simp only [cond_true, List.append_nil]; exact h.l
    · simp only [cond_true]; rw [h.bg, List.map_append]
    · simp only [cond_true, List.append_nil, chs_len, List.length_nil]; have := h.ch; omega
  | false =>
    refine ⟨?_, ?_, ?_⟩
    · simp only [cond_false, List.append_nil]; rw [h.l, h.bg, List.map_append, ← List.map_append]; rfl
    · rfl
    · simp only [cond_false, List.append_nil, List.nil_append, chs_len, List.length_append, List.length_cons, List.length_nil]; have := h.ch; omega
theorem adds_bk (K : Nat) (hK : 2000 ≤ K) (n : Nat) (hn : n ≤ 60) (gf : T65 → List T46) (hgf : gf = fun q => (row_Row_Glyphs K q).getD []) : ∀ (E : Lg) (b : T60) (s : BS), BkA b s → (∀ p ∈ E, Gd n p) → s.2.length + chars E < 1024 → BkA (addsF gf b (E.map (rw_ n))) (foldP s E)
  | [], b, s, h, hE, hl => h
  | p :: E, b, s, h, hE, hl => by
    have hp := hE p (by simp)
    have hg : gf (rw_ n p) = p.1.map gl := by
      rw [hgf]
      show (row_Row_Glyphs K (rowF n p.1 p.2)).getD [] = _
      rw [glyphs_eq K hK n hn p.1 hp.1 p.2 hp.2.1 hp.2.2]; rfl
    have hl2 : s.2.length + (p.1.length + chars E) < 1024 := hl
    have h1 := addF_bk h p (by omega)
    have h2 : (addP s p).2.length ≤ s.2.length + p.1.length := (foldP_len [p] s).1
    have ih := adds_bk K hK n hn gf hgf E _ _ h1 (fun q hq => hE q (by simp [hq])) (by omega)
    show BkA (addsF gf (addF b (gf (rw_ n p)) (rw_ n p).Wrapped) (E.map (rw_ n))) (foldP (addP s p) E)
    rw [hg]
    exact ih
theorem bk_add (K : Nat) (hK : 100000 ≤ K) (n : Nat) (hn : n ≤ 60) (E : Lg) (b : T60) (s : BS) (h : BkA b s) (hE : ∀ p ∈ E, Gd n p) (hl : s.2.length + chars E < 1024) (hs : s.1.length ≤ 2000) (hEl : E.length ≤ 2000) :
    ∃ m b', book_Book_Add K b (E.map (rw_ n)) = some (m, b') ∧ BkA b' (foldP s E) := by
  have hb : InvB b 2000 := ⟨by rw [h.l, List.length_map]; exact hs, h.ch, by rw [h.bg, List.length_map]; omega⟩
  have := add_eq K hK b 2000 hb (E.map (rw_ n)) (fun q => (row_Row_Glyphs K q).getD []) (fun q hq => by
    obtain ⟨p, hp, rfl⟩ := List.mem_map.1 hq
    have hg := hE p hp
    have e := glyphs_eq K (by omega) n hn p.1 hg.1 p.2 hg.2.1 hg.2.2
    show row_Row_Glyphs K (rowF n p.1 p.2) = some ((row_Row_Glyphs K (rowF n p.1 p.2)).getD []) ∧ ((row_Row_Glyphs K (rowF n p.1 p.2)).getD []).length ≤ 1000
    rw [e]
    exact ⟨rfl, by show (p.1.map gl).length ≤ 1000; rw [List.length_map]; have := hg.2.1; omega⟩) (by rw [List.length_map]; omega)
  exact ⟨_, _, this, adds_bk K (by omega) n hn _ rfl E b s h hE hl⟩
/-! ### A rune, and a line's end -/
def z0 : BS := ([], [])
structure Rel (n H : Nat) (s : T55) (b : T60) (E ab : Lg) (cur : List Int) : Prop where
  hs : s = scrA n H ab cur
  hab : ab.length < H
  hb : BkA b (foldP z0 E)
  hg : ∀ p ∈ E ++ ab, Gd n p
  hc : ∀ r ∈ cur, Ch r
  hcl : cur.length ≤ n
def msr (G : Lg) (cur : List Int) : Nat := G.length + chars G + cur.length
def stepL (n : Nat) (s : Lg × List Int) (r : Int) : Lg × List Int := if s.2.length = n then (s.1 ++ [(s.2, true)], [r]) else (s.1, s.2 ++ [r])
theorem step_msr (n : Nat) (s : Lg × List Int) (r : Int) : msr (stepL n s r).1 (stepL n s r).2 ≤ msr s.1 s.2 + 2 := by
  unfold stepL msr
  split
  · rename_i c
    simp only [List.length_append, chars_app, List.length_cons, List.length_nil]
    show s.1.length + (0 + 1) + (chars s.1 + (s.2.length + 0)) + (0 + 1) ≤ _
    omega
  · simp only [List.length_append, List.length_cons, List.length_nil]; omega
theorem emit (K : Nat) (hK : 100000 ≤ K) (n H : Nat) (hn : n ≤ 60) {b : T60} {E ab : Lg} (hab : ab.length < H) (hb : BkA b (foldP z0 E)) (p : List Int × Bool) (hg : ∀ q ∈ E ++ ab ++ [p], Gd n q) (hm : (E ++ ab).length + chars (E ++ ab) + p.1.length ≤ 1000) :
    ∃ m b', book_Book_Add K b ((stp H ab p).1.map (rw_ n)) = some (m, b') ∧ BkA b' (foldP z0 (E ++ (stp H ab p).1)) ∧ (stp H ab p).2.length < H ∧ (E ++ (stp H ab p).1) ++ (stp H ab p).2 = E ++ ab ++ [p] := by
  have h1 := stp_app H ab p
  have h2 := foldP_len E z0
  have h3 : chars (stp H ab p).1 + chars (stp H ab p).2 = chars ab + p.1.length := by
    rw [← chars_app, h1, chars_app]; rfl
  have h4 : (stp H ab p).1.length + (stp H ab p).2.length = ab.length + 1 := by
    rw [← List.length_append, h1, List.length_append]; rfl
  simp only [List.length_append, chars_app] at hm
  have h5 : (foldP z0 E).2.length ≤ 0 + chars E := h2.1
  have h6 : (foldP z0 E).1.length ≤ 0 + E.length := h2.2
  have hap : (E ++ (stp H ab p).1) ++ (stp H ab p).2 = E ++ ab ++ [p] := by rw [List.append_assoc, h1, List.append_assoc]
  obtain ⟨m, b', e1, e2⟩ := bk_add K hK n hn (stp H ab p).1 b _ hb (fun q hq => hg q (by rw [← hap]; simp [hq])) (by omega) (by omega) (by omega)
  refine ⟨m, b', e1, by rw [foldP_app]; exact e2, stp_len p hab, hap⟩
theorem one_prt (K : Nat) (hK : 100000 ≤ K) (n H : Nat) (hn : 2 ≤ n ∧ n ≤ 60) (hH : 1 ≤ H ∧ H ≤ 60) {s : T55} {b : T60} {E ab : Lg} {cur : List Int} (h : Rel n H s b E ab cur) (hm : msr (E ++ ab) cur ≤ 1000) (r : Int) (hr : Ch r) :
    ∃ off s' m b' E' ab', screen_Screen_Do K s (prt r) = some (off, s') ∧ book_Book_Add K b off = some (m, b') ∧ Rel n H s' b' E' ab' (stepL n (E ++ ab, cur) r).2 ∧ E' ++ ab' = (stepL n (E ++ ab, cur) r).1 := by
  have hp := print_eq' K (by omega) n H hn hH ab h.hab cur h.hc h.hcl r hr
  rw [h.hs, do_prt, hp]
  unfold prn stepL
  unfold msr at hm
  by_cases c : cur.length = n
  · rw [if_pos c, if_pos c]
    have hg2 : ∀ q ∈ E ++ ab ++ [(cur, true)], Gd n q := fun q hq => by
      rcases List.mem_append.1 hq with hq | hq
      · exact h.hg q hq
      · obtain rfl := List.mem_singleton.1 hq
        exact ⟨h.hc, h.hcl, fun _ => c⟩
    obtain ⟨m, b', e1, e2, e3, e4⟩ := emit K hK n H hn.2 h.hab h.hb (cur, true) hg2 hm
    refine ⟨_, _, m, b', E ++ (stp H ab (cur, true)).1, (stp H ab (cur, true)).2, rfl, e1, ⟨rfl, e3, e2, by rw [e4]; exact hg2, fun z hz => ?_, ?_⟩, e4⟩
    · obtain rfl := List.mem_singleton.1 hz; exact hr
    · simp only [List.length_cons, List.length_nil]; omega
  · rw [if_neg c, if_neg c]
    obtain ⟨m, b', e1, e2⟩ := bk_add K hK n hn.2 [] b _ h.hb (fun q hq => by cases hq) (by have := (foldP_len E z0).1; simp only [List.length_append, chars_app] at hm; have h5 : (foldP z0 E).2.length ≤ 0 + chars E := this; show (foldP z0 E).2.length + 0 < 1024; omega) (by have := (foldP_len E z0).2; simp only [List.length_append] at hm; have h5 : (foldP z0 E).1.length ≤ 0 + E.length := this; omega) (by simp)
    have hcl := h.hcl
    refine ⟨_, _, m, b', E, ab, rfl, e1, ⟨rfl, h.hab, e2, h.hg, fun z hz => ?_, ?_⟩, rfl⟩
    · rcases List.mem_append.1 hz with hz | hz
      · exact h.hc z hz
      · obtain rfl := List.mem_singleton.1 hz; exact hr
    · simp only [List.length_append, List.length_cons, List.length_nil]; omega
theorem two_ctl (K : Nat) (hK : 100000 ≤ K) (n H : Nat) (hn : 2 ≤ n ∧ n ≤ 60) (hH : 1 ≤ H ∧ H ≤ 60) {s : T55} {b : T60} {E ab : Lg} {cur : List Int} (h : Rel n H s b E ab cur) (hm : msr (E ++ ab) cur ≤ 1000) :
    ∃ s1 m1 b1, screen_Screen_Do K s (ctl 13) = some ([], s1) ∧ book_Book_Add K b [] = some (m1, b1) ∧ ∃ off s2 m2 b2 E' ab', screen_Screen_Do K s1 (ctl 10) = some (off, s2) ∧ book_Book_Add K b1 off = some (m2, b2) ∧ Rel n H s2 b2 E' ab' [] ∧ E' ++ ab' = E ++ ab ++ [(cur, false)] := by
  unfold msr at hm
  obtain ⟨m1, b1, e1, e2⟩ := bk_add K hK n hn.2 [] b _ h.hb (fun q hq => by cases hq) (by have := (foldP_len E z0).1; simp only [List.length_append, chars_app] at hm; have h5 : (foldP z0 E).2.length ≤ 0 + chars E := this; show (foldP z0 E).2.length + 0 < 1024; omega) (by have := (foldP_len E z0).2; simp only [List.length_append] at hm; have h5 : (foldP z0 E).1.length ≤ 0 + E.length := this; omega) (by simp)
  have hg2 : ∀ q ∈ E ++ ab ++ [(cur, false)], Gd n q := fun q hq => by
    rcases List.mem_append.1 hq with hq | hq
    · exact h.hg q hq
    · obtain rfl := List.mem_singleton.1 hq
      exact ⟨h.hc, h.hcl, fun hh => by cases hh⟩
  obtain ⟨m2, b2, e3, e4, e5, e6⟩ := emit K hK n H hn.2 h.hab e2 (cur, false) hg2 hm
  refine ⟨_, m1, b1, by rw [h.hs, do_ctl]; exact ctl13 K n H hn hH ab h.hab cur, e1, _, _, m2, b2, E ++ (stp H ab (cur, false)).1, (stp H ab (cur, false)).2, by rw [do_ctl]; exact ctl10 K (by omega) n H hn hH ab h.hab cur, e3, ⟨rfl, e5, e4, by rw [e6]; exact hg2, (fun z hz => by cases hz), by simp⟩, e6⟩
/-! ### What rows tell, joined -/
theorem lines_join (n : Nat) : ∀ (l : List Int) (G : Lg) (cur pre : List Int) (L : List (List Int)) (B : List Int), foldP z0 G = (L, B) → B ++ cur = pre →
    ∃ B', foldP z0 (l.foldl (stepL n) (G, cur)).1 = (L, B') ∧ B' ++ (l.foldl (stepL n) (G, cur)).2 = pre ++ l
  | [], G, cur, pre, L, B, h1, h2 => ⟨B, h1, by rw [List.append_nil]; exact h2⟩
  | r :: l, G, cur, pre, L, B, h1, h2 => by
    have key : ∃ B1, foldP z0 (stepL n (G, cur) r).1 = (L, B1) ∧ B1 ++ (stepL n (G, cur) r).2 = pre ++ [r] := by
      unfold stepL
      split
      · refine ⟨B ++ cur, ?_, by rw [h2]⟩
        rw [foldP_app, h1]; rfl
      · refine ⟨B, h1, ?_⟩
        rw [← List.append_assoc, h2]
    obtain ⟨B1, k1, k2⟩ := key
    obtain ⟨B', q1, q2⟩ := lines_join n l (stepL n (G, cur) r).1 (stepL n (G, cur) r).2 (pre ++ [r]) L B1 k1 k2
    refine ⟨B', q1, ?_⟩
    rw [List.foldl_cons]
    rw [List.append_assoc] at q2
    exact q2
theorem line_join (n : Nat) (l : List Int) (G : Lg) (L : List (List Int)) (h : foldP z0 G = (L, [])) : foldP z0 ((l.foldl (stepL n) (G, [])).1 ++ [((l.foldl (stepL n) (G, [])).2, false)]) = (L ++ [l], []) := by
  obtain ⟨B', h1, h2⟩ := lines_join n l G [] [] L [] h rfl
  rw [foldP_app, h1]
  show (L ++ [B' ++ (l.foldl (stepL n) (G, [])).2], []) = _
  rw [h2]; rfl
theorem steps_msr (n : Nat) : ∀ (l : List Int) (s : Lg × List Int), msr (l.foldl (stepL n) s).1 (l.foldl (stepL n) s).2 ≤ msr s.1 s.2 + 2 * l.length
  | [], s => Nat.le_refl _
  | r :: l, s => by
    have ih := steps_msr n l (stepL n s r)
    have := step_msr n s r
    rw [List.foldl_cons, List.length_cons]
    omega
end Go.Proofs.YtpciioffkjpieaaGreatDoor.Pure
