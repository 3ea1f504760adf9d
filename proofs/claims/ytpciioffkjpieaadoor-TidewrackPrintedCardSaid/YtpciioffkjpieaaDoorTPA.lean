/- Plain laws: what the plain functions answer, with no program in sight. -/
import Derived.Test.YtpciioffkjpieaaDoorSPE
set_option linter.unusedVariables false
set_option linter.unusedSimpArgs false
namespace Go.Proofs.YtpciioffkjpieaaDoor.Pure
open Go Go.Proofs.XC Go.Proofs.YtpciioffkjpieaaDoor

/-! ### The machine, total -/
structure S where
  st : Int
  pv : Bool
  wr : Bool
  an : Bool
  so : Bool
  n : Int
  nums : List Int
  text : ByteArray
  d : T44
def tT (s : S) (o : List T50) : T47 := ⟨s.st, s.pv, s.wr, s.an, s.so, s.n, s.nums, s.text, s.d.Lead, s.d.Rune, s.d.Need, o⟩
abbrev S0 : S := ⟨0, false, false, false, false, 0, [], ⟨#[]⟩, Z⟩
def prt (r : Int) : T50 := ⟨1, r, 0, false, [], ⟨#[]⟩⟩
def ctl (b : Int) : T50 := ⟨2, 0, b, false, [], ⟨#[]⟩⟩
def esc (b : Int) : T50 := ⟨3, 0, b, false, [], ⟨#[]⟩⟩
def ord (b : Int) (pv : Bool) (ns : List Int) : T50 := ⟨4, 0, b, pv, ns, ⟨#[]⟩⟩
def ttl (t : ByteArray) : T50 := ⟨5, 0, 0, false, [], t⟩
def comF (s : S) (b : Int) : Bool × S × List T50 :=
  if b = 24 ∨ b = 26 then (true, {s with st := 0}, [])
  else if b = 27 then (true, {s with st := 1}, [])
  else if b < 32 then (true, s, [ctl b])
  else (decide (b = 127), s, [])
def gndF (s : S) (b : Int) : S × List T50 :=
  if b < 32 ∨ b = 127 then ((comF {s with d := Z} b).2.1, (endF s.d).map prt ++ (comF {s with d := Z} b).2.2)
  else ({s with d := (nextF s.d b).1}, (nextF s.d b).2.map prt)
def escF (s : S) (b : Int) : S × List T50 :=
  if (comF s b).1 = true then (comF s b).2
  else if b = 91 then ({s with st := 3, pv := false, wr := false, an := false, so := false, n := 0, nums := []}, [])
  else if b = 93 then ({s with st := 4, text := ⟨#[]⟩}, [])
  else if b < 48 then ({s with st := 2}, [])
  else if b < 127 then ({s with st := 0}, [esc b])
  else ({s with st := 0}, [])
def skpF (s : S) (b : Int) : S × List T50 :=
  if (comF s b).1 = true then (comF s b).2
  else if b ≥ 48 then ({s with st := 0}, []) else (s, [])
def pshF (s : S) : S := if s.nums.length < 16 then {s with nums := s.nums ++ [s.n], n := 0} else {s with n := 0}
def finF (s : S) (b : Int) : S × List T50 :=
  if s.wr = true then ({s with st := 0}, [])
  else if s.so = true then (pshF {s with st := 0}, [ord b s.pv (pshF s).nums])
  else ({s with st := 0}, [ord b s.pv s.nums])
def ordS (s : S) (b : Int) : S :=
  if 48 ≤ b ∧ b ≤ 57 then {s with an := true, so := true, n := mnI (10 * s.n + (b - 48)) 9999}
  else if b = 59 ∨ b = 58 then {pshF s with an := true, so := true}
  else if b = 63 ∧ s.an = false then {s with an := true, pv := true}
  else {s with an := true, wr := true}
def cmdF (s : S) (b : Int) : S × List T50 :=
  if (comF s b).1 = true then (comF s b).2
  else if 64 ≤ b ∧ b < 127 then finF {s with an := true} b
  else (ordS s b, [])
def isP (t : ByteArray) (c : Int) : Prop := 2 ≤ t.size ∧ bt t 0 = c ∧ bt t 1 = 59
instance (t : ByteArray) (c : Int) : Decidable (isP t c) := by unfold isP; infer_instance
def titles (t : ByteArray) : List T50 := (if isP t 48 then [ttl (t.extract 2 t.size)] else []) ++ (if isP t 50 then [ttl (t.extract 2 t.size)] else [])
def ovrF (s : S) : S × List T50 := ({s with st := 0}, titles s.text)
def titG (s : S) (b : Int) : S × List T50 :=
  if b = 24 ∨ b = 26 then ({s with st := 0}, [])
  else if b = 27 then ({s with st := 5}, [])
  else if s.text.size < 200 then ({s with text := s.text ++ strOfNums [b]}, [])
  else (s, [])
def titF (s : S) (b : Int) : S × List T50 := if b = 7 then ovrF s else titG s b
def step (s : S) (b : Int) : S × List T50 :=
  if s.st = 0 then gndF s b
  else if s.st = 1 then escF s b
  else if s.st = 2 then skpF s b
  else if s.st = 3 then cmdF s b
  else if s.st = 4 then titF s b
  else if b = 92 then ovrF s
  else escF {s with st := 1} b
def run : S → List Int → S × List T50
  | s, [] => (s, [])
  | s, b :: r => ((run (step s b).1 r).1, (step s b).2 ++ (run (step s b).1 r).2)
theorem run_append : ∀ (a : List Int) (s : S) (b : List Int), run s (a ++ b) = ((run (run s a).1 b).1, (run s a).2 ++ (run (run s a).1 b).2)
  | [], s, b => by simp [run]
  | c :: a, s, b => by simp [run, run_append a]
/-! ### What stands at each state -/
structure Ok (s : S) : Prop where
  d : Inv s.d
  z : s.st ≠ 0 → s.d = Z
  n0 : 0 ≤ s.n
  n1 : s.n ≤ 9999
  nums : s.nums.length ≤ 16
  all : ∀ x ∈ s.nums, 0 ≤ x ∧ x ≤ 9999
  text : s.text.size ≤ 200
theorem Ok.S0 : Ok S0 := ⟨.inl rfl, fun _ => rfl, by decide, by decide, by decide, by simp, by decide⟩
theorem ok_com {s : S} (h : Ok s) (b : Int) (hz : s.d = Z) : Ok (comF s b).2.1 := by
  unfold comF; split
  · exact ⟨h.1, fun _ => hz, h.3, h.4, h.5, h.6, h.7⟩
  · split
    · exact ⟨h.1, fun _ => hz, h.3, h.4, h.5, h.6, h.7⟩
    · split <;> exact h
theorem ok_st {s : S} (h : Ok s) (hz : s.d = Z) (x : Int) : Ok {s with st := x} := ⟨h.1, fun _ => hz, h.3, h.4, h.5, h.6, h.7⟩
theorem ok_psh {s : S} (h : Ok s) : Ok (pshF s) := by
  unfold pshF; split
  · refine ⟨h.1, h.2, by simp, by simp, by simp; omega, ?_, h.7⟩
    intro x hx
    rcases List.mem_append.1 hx with hx | hx
    · exact h.6 x hx
    · rw [List.mem_singleton.1 hx]; exact ⟨h.3, h.4⟩
  · exact ⟨h.1, h.2, by simp, by simp, h.5, h.6, h.7⟩
theorem psh_d (s : S) : (pshF s).d = s.d ∧ (pshF s).st = s.st ∧ (pshF s).text = s.text := by unfold pshF; split <;> exact ⟨rfl, rfl, rfl⟩
theorem ok_ordS {s : S} (h : Ok s) (b : Int) (hb : 0 ≤ b) : Ok (ordS s b) := by
  unfold ordS; split
  · refine ⟨h.1, h.2, ?_, ?_, h.5, h.6, h.7⟩ <;> simp only [mnI] <;> have := h.3 <;> split <;> omega
  · split
    · have := ok_psh h
      exact ⟨this.1, this.2, this.3, this.4, this.5, this.6, this.7⟩
    · split <;> exact ⟨h.1, h.2, h.3, h.4, h.5, h.6, h.7⟩
theorem ok_fin {s : S} (h : Ok s) (b : Int) (hz : s.d = Z) : Ok (finF s b).1 := by
  unfold finF; split
  · exact ok_st h hz 0
  · split
    · exact ok_psh (ok_st h hz 0)
    · exact ok_st h hz 0
theorem ok_esc {s : S} (h : Ok s) (b : Int) (hz : s.d = Z) : Ok (escF s b).1 := by
  unfold escF; split
  · exact ok_com h b hz
  · split
    · exact ⟨h.1, fun _ => hz, by simp, by simp, by simp, by simp, h.7⟩
    · split
      · exact ⟨h.1, fun _ => hz, h.3, h.4, h.5, h.6, Nat.zero_le _⟩
      · split
        · exact ok_st h hz 2
        · split <;> exact ok_st h hz 0
theorem ok_step {s : S} (h : Ok s) (b : Int) (h0 : 0 ≤ b) (h1 : b < 256) : Ok (step s b).1 := by
  unfold step; split
  · unfold gndF; split
    · exact ok_com (s := {s with d := Z}) ⟨.inl rfl, fun _ => rfl, h.3, h.4, h.5, h.6, h.7⟩ b rfl
    · rename_i h2 h3
      exact ⟨(next_inv _ _ h.1 h0 h1).1, fun hc => absurd h2 hc, h.3, h.4, h.5, h.6, h.7⟩
  · rename_i hs; have hz := h.z hs
    split
    · exact ok_esc h b hz
    · split
      · unfold skpF; split
        · exact ok_com h b hz
        · split
          · exact ok_st h hz 0
          · exact h
      · split
        · unfold cmdF; split
          · exact ok_com h b hz
          · split
            · exact ok_fin (s := {s with an := true}) ⟨h.1, h.2, h.3, h.4, h.5, h.6, h.7⟩ b hz
            · exact ok_ordS h b h0
        · split
          · unfold titF; split
            · exact ok_st h hz 0
            · unfold titG; split
              · exact ok_st h hz 0
              · split
                · exact ok_st h hz 5
                · split
                  · refine ⟨h.1, h.2, h.3, h.4, h.5, h.6, ?_⟩
                    show (s.text ++ strOfNums [b]).size ≤ 200
                    rw [ByteArray.size_append, str_size, List.length_singleton]; omega
                  · exact h
          · split
            · exact ok_st h hz 0
            · exact ok_esc (ok_st h hz 1) b hz
theorem ok_run : ∀ (l : List Int) {s : S}, Ok s → Bytes l → Ok (run s l).1
  | [], s, h, _ => h
  | b :: r, s, h, hb => ok_run r (ok_step h b (hb b (by simp)).1 (hb b (by simp)).2) fun x hx => hb x (by simp [hx])
/-! ### Few actions a byte -/
theorem com_len (s : S) (b : Int) : (comF s b).2.2.length ≤ 1 := by unfold comF; split <;> (try split) <;> (try split) <;> simp
theorem titles_len (t : ByteArray) : (titles t).length ≤ 2 := by unfold titles; split <;> split <;> simp
theorem esc_len (s : S) (b : Int) : (escF s b).2.length ≤ 2 := by
  have := com_len s b
  unfold escF; split
  · omega
  · split <;> (try split) <;> (try split) <;> (try split) <;> simp
theorem step_len (s : S) (b : Int) : (step s b).2.length ≤ 2 := by
  have hc := com_len s b
  have hc2 := com_len {s with d := Z} b
  have hn := next_len s.d b
  have he : (endF s.d).length ≤ 1 := by unfold endF; split <;> simp
  have ht := titles_len s.text
  unfold step; split
  · unfold gndF; split <;> simp <;> omega
  · split
    · exact esc_len s b
    · split
      · unfold skpF; split
        · omega
        · split <;> simp
      · split
        · unfold cmdF; split
          · omega
          · split
            · unfold finF; split
              · simp
              · split <;> simp
            · simp
        · split
          · unfold titF ovrF; split
            · exact ht
            · unfold titG; split <;> (try split) <;> (try split) <;> simp
          · split
            · exact ht
            · exact esc_len _ b
theorem run_len : ∀ (l : List Int) (s : S), (run s l).2.length ≤ 2 * l.length
  | [], s => by simp [run]
  | b :: r, s => by
    have := run_len r (step s b).1
    have := step_len s b
    simp only [run, List.length_append, List.length_cons]; omega
end Go.Proofs.YtpciioffkjpieaaDoor.Pure
