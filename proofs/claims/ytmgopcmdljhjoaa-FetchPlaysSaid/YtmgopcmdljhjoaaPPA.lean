/- Plain laws: what the plain functions answer, with no program in sight. -/
import Derived.Test.YtmgopcmdljhjoaaD
set_option linter.unusedVariables false
set_option linter.unusedSimpArgs false
namespace Go.Proofs.Ytmgopcmdljhjoaa.Pure
open Go Go.Proofs.XC Go.Proofs.Ytmgopcmdljhjoaa

/-! ### Sets of numbers as spans that rise and don't touch -/
def isin (x : T30) (n : Int) : Bool := decide (x.From ≤ n ∧ n < x.To)
def hasF (l : List T30) (n : Int) : Bool := l.any fun x => isin x n
def NF : List T30 → Prop
  | [] => True
  | x :: l => x.From < x.To ∧ (∀ y ∈ l, x.To < y.From) ∧ NF l
def Bd (l : List T30) : Prop := ∀ x ∈ l, -1152921504606846976 ≤ x.From ∧ x.From ≤ 1152921504606846976 ∧ -1152921504606846976 ≤ x.To ∧ x.To ≤ 1152921504606846976
theorem isin_iff (x : T30) (n : Int) : isin x n = true ↔ x.From ≤ n ∧ n < x.To := by simp [isin]
theorem hasF_cons (x : T30) (l : List T30) (n : Int) : hasF (x :: l) n = (isin x n || hasF l n) := rfl
theorem hasF_nil (n : Int) : hasF [] n = false := rfl
theorem hasF_iff (l : List T30) (n : Int) : hasF l n = true ↔ ∃ x ∈ l, x.From ≤ n ∧ n < x.To := by
  simp [hasF, isin]
theorem hasF_app (a b : List T30) (n : Int) : hasF (a ++ b) n = (hasF a n || hasF b n) := by simp [hasF]
theorem NF.mem_lt {l : List T30} (h : NF l) : ∀ x ∈ l, x.From < x.To := by
  induction l with
  | nil => intro x hx; simp at hx
  | cons y l ih =>
    intro x hx
    rcases List.mem_cons.1 hx with rfl | hx
    · exact h.1
    · exact ih h.2.2 x hx
theorem NF.app {a b : List T30} (ha : NF a) (hb : NF b) (h : ∀ x ∈ a, ∀ y ∈ b, x.To < y.From) : NF (a ++ b) := by
  induction a with
  | nil => exact hb
  | cons x a ih =>
    refine ⟨ha.1, fun y hy => ?_, ih ha.2.2 (fun z hz => h z (by simp [hz]))⟩
    rcases List.mem_append.1 hy with hy | hy
    · exact ha.2.1 y hy
    · exact h x (by simp) y hy
theorem NF.low {x : T30} {l : List T30} (h : NF (x :: l)) (n : Int) (hn : hasF (x :: l) n = true) : x.From ≤ n := by
  obtain ⟨y, hy, h1, h2⟩ := (hasF_iff _ _).1 hn
  rcases List.mem_cons.1 hy with rfl | hy
  · exact h1
  · have := h.2.1 y hy; have := h.1; omega
theorem NF.gap {x : T30} {l : List T30} (h : NF (x :: l)) : hasF (x :: l) x.To = false := by
  cases hc : hasF (x :: l) x.To with
  | false => rfl
  | true =>
    obtain ⟨y, hy, h1, h2⟩ := (hasF_iff _ _).1 hc
    rcases List.mem_cons.1 hy with rfl | hy
    · omega
    · have := h.2.1 y hy; omega
theorem NF.tail_has {x : T30} {l : List T30} (h : NF (x :: l)) (n : Int) : hasF l n = (hasF (x :: l) n && decide (x.To ≤ n)) := by
  rw [hasF_cons]
  cases hl : hasF l n with
  | true =>
    obtain ⟨y, hy, h1, h2⟩ := (hasF_iff _ _).1 hl
    have := h.2.1 y hy
    have : x.To ≤ n := by omega
    simp [this]
  | false =>
    simp only [Bool.or_false, Bool.false_eq, Bool.and_eq_false_iff, decide_eq_false_iff_not, isin]
    by_cases c : x.From ≤ n ∧ n < x.To
    · right; omega
    · left; exact c
/-- Just one such list has just these numbers. -/
theorem NF.uniq : ∀ {a b : List T30}, NF a → NF b → (∀ n, hasF a n = hasF b n) → a = b
  | [], [], _, _, _ => rfl
  | [], y :: b, _, hb, h => by
    have h1 : hasF (y :: b) y.From = true := (hasF_iff _ _).2 ⟨y, by simp, by omega, hb.1⟩
    rw [← h] at h1; simp [hasF] at h1
  | x :: a, [], ha, _, h => by
    have h1 : hasF (x :: a) x.From = true := (hasF_iff _ _).2 ⟨x, by simp, by omega, ha.1⟩
    rw [h] at h1; simp [hasF] at h1
  | x :: a, y :: b, ha, hb, h => by
    have h1 : hasF (y :: b) y.From = true := (hasF_iff _ _).2 ⟨y, by simp, by omega, hb.1⟩
    have h2 : hasF (x :: a) x.From = true := (hasF_iff _ _).2 ⟨x, by simp, by omega, ha.1⟩
    have e1 := ha.low _ (by rw [h]; exact h1)
    have e2 := hb.low _ (by rw [← h]; exact h2)
    have e3 : x.To = y.To := by
      rcases Int.lt_trichotomy x.To y.To with c | c | c
      · have g := ha.gap
        rw [h] at g
        have : hasF (y :: b) x.To = true := (hasF_iff _ _).2 ⟨y, by simp, by have := ha.1; omega, c⟩
        rw [g] at this; cases this
      · exact c
      · have g := hb.gap
        rw [← h] at g
        have : hasF (x :: a) y.To = true := (hasF_iff _ _).2 ⟨x, by simp, by have := hb.1; omega, c⟩
        rw [g] at this; cases this
    have e4 : x = y := by obtain ⟨x1, x2⟩ := x; obtain ⟨y1, y2⟩ := y; simp only at e1 e2 e3; congr 1; omega
    subst e4
    rw [NF.uniq ha.2.2 hb.2.2 (fun n => by rw [ha.tail_has, hb.tail_has, h])]
/-! ### One more -/
def hull (x y : T30) : T30 := ⟨mnI x.From y.From, mxI x.To y.To⟩
def add1 : T30 → List T30 → List T30
  | x, [] => [x]
  | x, y :: l => if y.To < x.From then y :: add1 x l else if y.From > x.To then x :: y :: l else add1 (hull x y) l
theorem add1_low : ∀ (l : List T30) (x : T30) (b : Int), b < x.From → (∀ y ∈ l, b < y.From) → ∀ z ∈ add1 x l, b < z.From
  | [], x, b, h, _, z, hz => by simp only [add1, List.mem_singleton] at hz; subst hz; exact h
  | y :: l, x, b, h, hl, z, hz => by
    unfold add1 at hz
    have hy := hl y (by simp)
    have hl2 : ∀ y ∈ l, b < y.From := fun y hy => hl y (by simp [hy])
    split at hz
    · rcases List.mem_cons.1 hz with rfl | hz
      · exact hy
      · exact add1_low l x b h hl2 z hz
    · split at hz
      · rcases List.mem_cons.1 hz with rfl | hz
        · exact h
        · exact hl z hz
      · exact add1_low l (hull x y) b (by simp only [hull, mnI]; split <;> omega) hl2 z hz
theorem add1_nf : ∀ (l : List T30) (x : T30), x.From < x.To → NF l → NF (add1 x l)
  | [], x, h, _ => ⟨h, by simp, trivial⟩
  | y :: l, x, h, hl => by
    unfold add1
    split
    · rename_i c
      exact ⟨hl.1, add1_low l x y.To c hl.2.1, add1_nf l x h hl.2.2⟩
    · split
      · rename_i c1 c2
        refine ⟨h, fun z hz => ?_, hl⟩
        rcases List.mem_cons.1 hz with rfl | hz
        · exact c2
        · have := hl.2.1 z hz; have := hl.1; omega
      · exact add1_nf l (hull x y) (by simp only [hull, mnI, mxI]; (repeat' split) <;> omega) hl.2.2
theorem add1_has : ∀ (l : List T30) (x : T30) (n : Int), x.From < x.To → NF l → hasF (add1 x l) n = (isin x n || hasF l n)
  | [], x, n, _, _ => rfl
  | y :: l, x, n, h, hl => by
    unfold add1
    split
    · rw [hasF_cons, add1_has l x n h hl.2.2, hasF_cons]
      cases isin x n <;> cases isin y n <;> simp
    · split
      · rfl
      · rename_i c1 c2
        rw [add1_has l (hull x y) n (by simp only [hull, mnI, mxI]; have := hl.1; (repeat' split) <;> omega) hl.2.2, hasF_cons, ← Bool.or_assoc]
        congr 1
        have := hl.1
        rw [Bool.eq_iff_iff, Bool.or_eq_true, isin_iff, isin_iff, isin_iff]
        simp only [hull, mnI, mxI]
        (repeat' split) <;> omega
theorem add1_bd : ∀ (l : List T30) (x : T30), Bd [x] → Bd l → Bd (add1 x l)
  | [], x, h, _ => h
  | y :: l, x, h, hl => by
    have hx := h x (by simp)
    have hy := hl y (by simp)
    have hl2 : Bd l := fun z hz => hl z (by simp [hz])
    unfold add1
    split
    · intro z hz
      rcases List.mem_cons.1 hz with rfl | hz
      · exact hy
      · exact add1_bd l x h hl2 z hz
    · split
      · intro z hz
        rcases List.mem_cons.1 hz with rfl | hz
        · exact hx
        · exact hl z hz
      · refine add1_bd l (hull x y) (fun z hz => ?_) hl2
        simp only [List.mem_singleton] at hz
        subst hz
        simp only [hull, mnI, mxI]; (repeat' split) <;> omega
theorem add1_len : ∀ (l : List T30) (x : T30), (add1 x l).length ≤ l.length + 1
  | [], x => by simp [add1]
  | y :: l, x => by
    have h1 := add1_len l x
    have h2 := add1_len l (hull x y)
    unfold add1
    split
    · simp only [List.length_cons]; omega
    · split
      · simp
      · simp only [List.length_cons]; omega
/-! ### Less, and what two have -/
def ne (l : List T30) : List T30 := l.filter fun x => decide (x.From < x.To)
def parts (x y : T30) : List T30 := ne [⟨y.From, mnI y.To x.From⟩, ⟨mxI y.From x.To, y.To⟩]
def cut1 (x : T30) (l : List T30) : List T30 := l.flatMap (parts x)
def both (x y : T30) : T30 := ⟨mxI y.From x.From, mnI y.To x.To⟩
def in1 (x : T30) (l : List T30) : List T30 := ne (l.map (both x))
theorem parts_mem {x y z : T30} (h : z ∈ parts x y) : z.From < z.To ∧ y.From ≤ z.From ∧ z.To ≤ y.To := by
  simp only [parts, ne, List.mem_filter, List.mem_cons, List.not_mem_nil, or_false, decide_eq_true_eq] at h
  rcases h with ⟨rfl | rfl, h⟩
  · refine ⟨h, by simp, ?_⟩; simp only [mnI]; split <;> omega
  · refine ⟨h, ?_, by simp⟩; simp only [mxI]; split <;> omega
theorem parts_nf (x y : T30) (hx : x.From < x.To) : NF (parts x y) := by
  unfold parts ne
  simp only [List.filter_cons, List.filter_nil]
  split
  · split
    · rename_i h1 h2
      refine ⟨by simpa using h1, fun z hz => ?_, by simpa using h2, by simp, trivial⟩
      simp only [List.mem_singleton] at hz; subst hz
      simp only [mnI, mxI]; (repeat' split) <;> omega
    · rename_i h1 h2; exact ⟨by simpa using h1, by simp, trivial⟩
  · split
    · rename_i h1 h2; exact ⟨by simpa using h2, by simp, trivial⟩
    · trivial
theorem parts_has (x y : T30) (n : Int) : hasF (parts x y) n = (isin y n && !(isin x n)) ∨ ¬ x.From < x.To := by
  by_cases hx : x.From < x.To
  · left
    rw [Bool.eq_iff_iff, Bool.and_eq_true, isin_iff, hasF_iff]
    simp only [parts, ne, List.mem_filter, List.mem_cons, List.not_mem_nil, or_false, decide_eq_true_eq, isin, Bool.not_eq_true', decide_eq_false_iff_not]
    constructor
    · rintro ⟨z, ⟨rfl | rfl, h1⟩, h2, h3⟩
      · simp only [mnI] at h1 h2 h3; split at h3 <;> omega
      · simp only [mxI] at h1 h2 h3; split at h2 <;> omega
    · rintro ⟨⟨h1, h2⟩, h3⟩
      by_cases c : n < x.From
      · exact ⟨⟨y.From, mnI y.To x.From⟩, ⟨.inl rfl, by simp only [mnI]; split <;> omega⟩, h1, by simp only [mnI]; split <;> omega⟩
      · exact ⟨⟨mxI y.From x.To, y.To⟩, ⟨.inr rfl, by simp only [mxI]; split <;> omega⟩, by simp only [mxI]; split <;> omega, h2⟩
  · exact .inr hx
theorem cut1_nf (x : T30) (hx : x.From < x.To) : ∀ (l : List T30), NF l → NF (cut1 x l)
  | [], _ => trivial
  | y :: l, h => by
    unfold cut1
    rw [List.flatMap_cons]
    refine NF.app (parts_nf x y hx) (cut1_nf x hx l h.2.2) fun z hz u hu => ?_
    obtain ⟨v, hv, hu⟩ := List.mem_flatMap.1 hu
    have h1 := parts_mem hz
    have h2 := parts_mem hu
    have h3 := h.2.1 v hv
    omega
theorem cut1_has (x : T30) (hx : x.From < x.To) (n : Int) : ∀ (l : List T30), hasF (cut1 x l) n = (hasF l n && !(isin x n))
  | [] => rfl
  | y :: l => by
    have := cut1_has x hx n l
    unfold cut1 at this ⊢
    rw [List.flatMap_cons, hasF_app, this, hasF_cons, (parts_has x y n).resolve_right (by simp [hx])]
    cases isin y n <;> cases isin x n <;> cases hasF l n <;> rfl
theorem cut1_bd (x : T30) (l : List T30) (hl : Bd l) : Bd (cut1 x l) := fun z hz => by
  obtain ⟨v, hv, hu⟩ := List.mem_flatMap.1 hz
  have h1 := parts_mem hu
  have h2 := hl v hv
  omega
theorem parts_len (x y : T30) : (parts x y).length ≤ 2 := by
  unfold parts ne
  exact Nat.le_trans (List.length_filter_le _ _) (by simp)
theorem cut1_len (x : T30) : ∀ (l : List T30), (cut1 x l).length ≤ 2 * l.length
  | [] => by simp [cut1]
  | y :: l => by
    have := cut1_len x l
    have := parts_len x y
    unfold cut1 at *
    simp only [List.flatMap_cons, List.length_append, List.length_cons]; omega
theorem in1_nf (x : T30) : ∀ (l : List T30), NF l → NF (in1 x l)
  | [], _ => trivial
  | y :: l, h => by
    have ih := in1_nf x l h.2.2
    unfold in1 ne at *
    simp only [List.map_cons, List.filter_cons]
    split
    · rename_i c
      refine ⟨by simpa using c, fun z hz => ?_, ih⟩
      simp only [List.mem_filter, List.mem_map, decide_eq_true_eq] at hz
      obtain ⟨⟨v, hv, rfl⟩, h1⟩ := hz
      have h3 := h.2.1 v hv
      have c2 : (both x y).From < (both x y).To := by simpa using c
      simp only [both, mxI, mnI] at c2 h1 ⊢
      (repeat' split at *) <;> omega
    · exact ih
theorem in1_has (x : T30) (n : Int) : ∀ (l : List T30), hasF (in1 x l) n = (hasF l n && isin x n)
  | [] => rfl
  | y :: l => by
    have ih := in1_has x n l
    have hb : isin (both x y) n = (isin y n && isin x n) := by
      rw [Bool.eq_iff_iff, Bool.and_eq_true, isin_iff, isin_iff, isin_iff]
      simp only [both, mxI, mnI]; (repeat' split) <;> omega
    unfold in1 ne at *
    simp only [List.map_cons, List.filter_cons]
    split
    · rw [hasF_cons, ih, hasF_cons, hb]
      cases isin y n <;> cases isin x n <;> cases hasF l n <;> rfl
    · rename_i c
      have : isin (both x y) n = false := by
        cases hc : isin (both x y) n with
        | false => rfl
        | true => have := (isin_iff _ _).1 hc; simp at c; omega
      rw [ih, hasF_cons]
      rw [this] at hb
      clear this c ih
      generalize isin y n = a at *
      generalize isin x n = b at *
      generalize hasF l n = d at *
      cases a <;> cases b <;> cases d <;> first | rfl | cases hb
theorem in1_bd (x : T30) (l : List T30) (hx : Bd [x]) (hl : Bd l) : Bd (in1 x l) := fun z hz => by
  simp only [in1, ne, List.mem_filter, List.mem_map, decide_eq_true_eq] at hz
  obtain ⟨⟨v, hv, rfl⟩, h1⟩ := hz
  have h2 := hl v hv
  have h3 := hx x (by simp)
  simp only [both, mxI, mnI]; (repeat' split) <;> omega
theorem in1_len (x : T30) (l : List T30) : (in1 x l).length ≤ l.length := by
  unfold in1 ne
  exact Nat.le_trans (List.length_filter_le _ _) (by simp)
/-! ### How many -/
def meas (l : List T30) : Int := (l.map fun x => x.To - x.From).sum
def cnt (p : Int → Bool) (lo : Int) : Nat → Int
  | 0 => 0
  | k + 1 => cnt p lo k + (if p (lo + k) = true then 1 else 0)
theorem cnt_congr {p q : Int → Bool} (h : ∀ n, p n = q n) (lo : Int) : ∀ k, cnt p lo k = cnt q lo k
  | 0 => rfl
  | k + 1 => by simp only [cnt, cnt_congr h lo k, h]
theorem cnt_or {p q : Int → Bool} (h : ∀ n, ¬ (p n = true ∧ q n = true)) (lo : Int) : ∀ k, cnt (fun n => p n || q n) lo k = cnt p lo k + cnt q lo k
  | 0 => rfl
  | k + 1 => by
    have := cnt_or h lo k
    have h2 := h (lo + k)
    simp only [cnt, this, Bool.or_eq_true]
    by_cases a : p (lo + k) = true <;> by_cases b : q (lo + k) = true
    · exact absurd ⟨a, b⟩ h2
    · simp [a, b]; omega
    · simp [a, b]; omega
    · simp [a, b]
theorem cnt_zero {p : Int → Bool} (h : ∀ n, p n = false) (lo : Int) : ∀ k, cnt p lo k = 0
  | 0 => rfl
  | k + 1 => by simp [cnt, cnt_zero h lo k, h]
theorem cnt_one (x : T30) (lo : Int) (hx : x.From ≤ x.To) (h0 : lo ≤ x.From) : ∀ k : Nat, cnt (isin x) lo k = if lo + k ≤ x.From then 0 else if lo + k ≤ x.To then lo + k - x.From else x.To - x.From
  | 0 => by unfold cnt; (repeat' split) <;> omega
  | k + 1 => by
    rw [cnt, cnt_one x lo hx h0 k]
    simp only [isin, decide_eq_true_eq]
    (repeat' split) <;> omega
theorem cnt_meas (lo : Int) (k : Nat) : ∀ (l : List T30), NF l → (∀ x ∈ l, lo ≤ x.From ∧ x.To ≤ lo + k) → cnt (hasF l) lo k = meas l
  | [], _, _ => cnt_zero (fun _ => rfl) lo k
  | x :: l, h, hb => by
    have h1 : cnt (hasF (x :: l)) lo k = cnt (isin x) lo k + cnt (hasF l) lo k := by
      rw [← cnt_or]
      · rfl
      · rintro n ⟨h1, h2⟩
        have h3 := (isin_iff _ _).1 h1
        obtain ⟨y, hy, h4, h5⟩ := (hasF_iff _ _).1 h2
        have := h.2.1 y hy
        omega
    have hx := hb x (by simp)
    have := h.1
    rw [h1, cnt_meas lo k l h.2.2 (fun y hy => hb y (by simp [hy])), cnt_one x lo (by omega) hx.1]
    simp only [meas, List.map_cons, List.sum_cons]
    (repeat' split) <;> omega
theorem meas_app (a b : List T30) : meas (a ++ b) = meas a + meas b := by simp [meas]
end Go.Proofs.Ytmgopcmdljhjoaa.Pure
