/- Words of an own calculus over the model: how a call's frame, rows and boxes go through its operations. -/
import Derived.Test.YtmgopcmdljhjoaaY19
import Derived.Lib.AppendStr
set_option linter.unusedSimpArgs false
set_option linter.unusedVariables false
namespace Go.Proofs.XC
open Go

theorem St.startM2 (w : World) (o : Nat → Nat) {Ls : List Nat} {m : Nat} (hd : Ls.Nodup) (hm : Ls.length = m) : ∃ oi : Nat → Nat, (∀ M, St M w oi w oi) ∧ (∀ (P : World → Prop) (L : Nat), L ∉ Ls → Ft P w o L → Ft P w oi 0) ∧
    (∀ {P : World → Prop} {L : Nat} (i j : Nat), Ft P w o L → Ls[i]? = some L → i + 1 = j → Ft P w oi j) ∧ (∀ b, oi b ≤ m) ∧ (∀ b, oi b = 0 ∨ o b ∈ Ls) ∧ (∀ b i, oi b = i + 1 → Ls[i]? = some (o b)) := by
  subst hm
  obtain ⟨oi, h1, h2, h3, h4, h5, h6⟩ := St.startM w o Ls
  refine ⟨oi, h1, h2, fun {P L} i j hf hi hj => ?_, h4, h5, h6⟩
  subst hj
  have he : Ls[i]'(List.getElem?_eq_some_iff.1 hi).1 = L := (List.getElem?_eq_some_iff.1 hi).2
  refine h3 P i L ?_ (List.mem_of_getElem? hi) hf
  rw [← he]; exact hd.idxOf_getElem i _
/-! ### More operations -/
section
variable {ρ : Option Nat} {ds : List Deferred} {P : Program} {T : Tab} {n : Nat} {a : Act} {e : Env} {w : World} {o : Nat → Nat} {L : Nat} {Q : Exit → Act → World → Prop} {K : Act → World → Prop} {d : Option Tmp} {ty : TypeId} {pos : String} {af : Array Edge} {g : Option (Nat × Bool)}
theorem numsOf_cells (s : ByteArray) : (numsOf s).flatMap (encInt .u8).f = Lib.strCells s := by
  unfold numsOf Lib.strCells
  induction s.data.toList with
  | nil => rfl
  | cons x l ih =>
    simp only [List.map_cons, List.flatMap_cons, ih]
    rfl
theorem append_string_at (w : World) (t u ty e : TypeId) (i : TypeInfo) (ht : P.underlying t = some (.slice e)) (hu : P.underlying u = some .string) (hi : P.info? e = some i) (hz : i.zero = some (.int .u8 0))
    (hsize : i.size = 1) (hby : i.bytes = 1) (v : Value) (n : Nat) (xs : List Value) (hown : w.ownsRow 0 e 1 v n xs) (s : ByteArray) (hb : n + s.size ≤ 1000000000) (v' : Value) (w' : World)
    (hr : (Builtin.append_ #[t, u] ty #[v, .string s]).run P w = .ok v' w') : v'.ownBlock = v.ownBlock ∨ v'.ownBlock = some w.heap.size := by
  have hxl : xs.length = n := by simpa using hown.1
  rcases hown.2 with ⟨rfl, rfl⟩ | ⟨g, cap, cur, rfl, hbg, hg, hnc, hcm, hcs, htake⟩
  · by_cases hm : s.size = 0
    · have hf := Lib.run_firstCells_string (P := P) w 1 s
      have hn : Lib.strCells s = [] := List.eq_nil_of_length_eq_zero (by rw [Lib.strCells_length]; exact hm)
      rw [hm, hn] at hf
      have : (Builtin.append_ #[t, u] ty #[.slice none 0 0, .string s]).run P w = .ok (.slice none 0 0) w := by
        simp [Builtin.append_, run_underlying ht, run_underlying hu, sizeOf, typeInfo, hi, hsize, Builtin.lenOf, hm, hf]
      rw [this] at hr
      injection hr with h1 _
      subst h1
      exact .inl rfl
    · have h2 := run_append_nil_string (P := P) w t u ty e i (.int .u8 0) ht hu hi hz s (by omega) (by omega) (by rw [hby]; omega)
      rw [h2] at hr
      injection hr with h1 _
      subst h1
      exact .inr rfl
  · by_cases hroom : n + s.size ≤ cap
    · have h2 := Lib.run_append_room_string (P := P) w t u ty e i ht hu hi hsize g n cap cur hg s hroom (by have : cur.size = cap := by simpa using hcs
                                                                                                            omega)
      rw [h2] at hr
      injection hr with h1 _
      subst h1
      exact .inl rfl
    · have holds : ∀ j u, xs[j]? = some u → w.cell? ((⟨g, 0, none⟩ : Addr).add j) = some u := hown.cells (g := g) rfl
      have h2 := Lib.run_append_grow_string (P := P) w t u ty e i (.int .u8 0) ht hu hi hz ⟨g, 0, none⟩ n cap xs (by rw [hsize]; simpa using hxl) holds s (by omega) (by omega) (by rw [hby]; exact growslice_fits (by omega) (by omega))
      rw [h2] at hr
      injection hr with h1 _
      subst h1
      exact .inr rfl
/-- append(b, s...) -/
theorem op_appendS (ht : TabOK P T) (hk : KnD n ds a e) {t u el : Nat} {s x : Operand} {v : Value} {xs : List Int} {y : ByteArray}
    (hu : find T.und t = some (.slice el)) (hu2 : find T.und u = some .string) (hi : find T.inf el = some (1, 1, .int .u8 0)) (hs : evo e s = some v) (hx : evo e x = some (.string y)) (hown : Ft (Own (encInt .u8) el v xs) w o L) (hlim : xs.length + y.size ≤ 1000000000)
    (h : ∀ A c w' o', St [L] w o w' o' → Ft (Own (encInt .u8) el (.slice A (xs ++ numsOf y).length c) (xs ++ numsOf y)) w' o' L → (xs ++ numsOf y).length ≤ c → K (a.put d (.slice A (xs ++ numsOf y).length c)) w') :
    (Oper.mk d (.call { callee := .builtin .append, args := #[s, x], argTypes := #[t, u] }) ty pos af g).wpIn (WF ρ) 0 P a w K Q := by
  obtain ⟨i, hinf, his, hib, hiz⟩ := ht.i hi
  have hev1 : a.eval s = v := hk.ev hs
  have hev2 : a.eval x = .string y := hk.ev hx
  obtain ⟨v', w1, hr, hown', hg, _⟩ := Lib.run_append_own_string (P := P) w 0 t u ty el i (ht.u hu) (ht.u hu2) hinf hiz his hib v xs.length (xs.flatMap (encInt .u8).f) hown.now y (by simp only [maxLen]; omega) (by omega) (Nat.zero_le _)
  have hat := append_string_at w t u ty el i (ht.u hu) (ht.u hu2) hinf hiz his hib v xs.length _ hown.now y hlim v' w1 hr
  have hexec : (execOp a.eval (Oper.mk d (.call { callee := .builtin .append, args := #[s, x], argTypes := #[t, u] }) ty pos af g)).run P w = .ok (.value v') w1 := by
    simp [execOp, resolve, invoke, builtin, hev1, hev2, hr]
  refine op_of_run hexec ?_
  have hOwn : Own (encInt .u8) el v' (xs ++ numsOf y) w1 := by
    unfold Own
    rw [List.length_append, List.flatMap_append, numsOf_cells, numsOf_len]
    exact hown'
  obtain ⟨A, c, rfl, hc, _⟩ := hOwn.shape
  have hL := Own.lab hown
  refine h A c w1 (fun b => if b < w.heap.size then o b else L) ⟨hg.os, hg.tape, hg.output, hg.size, fun b hb => by simp [hb], fun b hb hm => hg.block b hb (fun e => hm (by rw [hL b e.symm]; simp))⟩
    (hOwn.ft fun k hk => ?_) hc
  rcases hat with hat | hat
  · rw [hat] at hk
    by_cases hlt : k < w.heap.size
    · simp [hlt, hL k hk]
    · simp [hlt]
  · rw [hat] at hk
    cases hk
    simp
end
end Go.Proofs.XC
