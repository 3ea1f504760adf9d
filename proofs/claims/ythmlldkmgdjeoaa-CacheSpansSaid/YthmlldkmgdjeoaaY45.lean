/- Words of an own calculus over the model: how a call's frame, rows and boxes go through its operations. -/
import Derived.Test.YthmlldkmgdjeoaaY43
import Derived.Shelf.SlSortCmp.NoneTotal
set_option linter.unusedSimpArgs false
set_option linter.unusedVariables false
namespace Go.Proofs.XC
open Go Go.MapKept Go.Maps Go.Proofs Go.Sort

/-! ### Rows that are sorted by a function that compares -/
section
variable {P : Program} {w w' : World} {o o' : Nat → Nat}
theorem sortWorld_st {g m Lr : Nat} {d : Array Int} {os : Array Obj} (hL : o g = Lr) (o' : Nat → Nat) (ho : ∀ b, b < w.heap.size → o' b = o b) : St [Lr] w o (sortWorld (Value.int .i64) w g 0 m d os) o' := by
  refine ⟨rfl, rfl, rfl, ?_, fun b hb _ => ho b hb, fun b hb hn => ?_⟩
  · show w.heap.size ≤ ((w.heap.modify g (onCells (putCells (Value.int .i64) 0 d))) ++ os).size
    simp
  · have hbg : g ≠ b := fun e => hn (by rw [← e, hL]; simp)
    show ((w.heap.modify g (onCells (putCells (Value.int .i64) 0 d))) ++ os)[b]? = _
    rw [Array.getElem?_append_left (by simpa using hb), Array.getElem?_modify, if_neg hbg]
theorem sortWorld_at {g m : Nat} {d : Array Int} {os : Array Obj} {cur : Array Value} {t : TypeId} (h : w.heap[g]? = some (.cells cur t (0, 0))) : (sortWorld (Value.int .i64) w g 0 m d os).heap[g]? = some (.cells (putCells (Value.int .i64) 0 d cur) t (0, 0)) := by
  have hlt := (Array.getElem?_eq_some_iff.1 h).1
  show ((w.heap.modify g (onCells (putCells (Value.int .i64) 0 d))) ++ os)[g]? = _
  rw [Array.getElem?_append_left (by simpa using hlt), Array.getElem?_modify, if_pos rfl, h]
  rfl
theorem take_put {d : Array Int} {cur : Array Value} (hs : d.size ≤ cur.size) : (putCells (Value.int .i64) 0 d cur).toList.take d.size = d.toList.map (Value.int .i64) := by
  apply List.ext_getElem?
  intro i
  by_cases hi : i < d.size
  · rw [List.getElem?_take_of_lt hi, List.getElem?_map, Array.getElem?_toList, Array.getElem?_toList]
    unfold putCells
    rw [Array.getElem?_mapIdx, Array.getElem?_eq_getElem (by omega), Array.getElem?_eq_getElem hi, Option.map_some, if_pos ⟨by omega, by omega⟩, Option.map_some, Nat.sub_zero, getElem!_pos d i hi]
  · rw [List.getElem?_eq_none (by rw [List.length_take]; omega), List.getElem?_eq_none (by simp; omega)]
theorem sort_of {ρ : Shelf.Ren} (L : SlLaysF.n6 P ρ) (g : Nat) (cb : Array Value) (eg : EntersF P g) (cf : Int → Int → Int) (hO : SWO (ltOf cf)) {t3 : TypeId} (A : Option Addr) (c : Nat) (ks : List Int) (w : World) (o : Nat → Nat) {Lr : Nat}
    (hr : Ft (Own (encInt .i64) t3 (.slice A ks.length c) ks) w o Lr) (hsz : ks.length ≤ 1000000000)
    (hcmp : ∀ W, St [Lr] w o W o → ∀ x y : Int, Calls P g (#[.int .i64 x, .int .i64 y] ++ cb) W fun e w' => e = .returned (.int .i64 (cf x y)) ∧ w' = W.drew) :
    Calls P (ρ.f 6) #[.slice A ks.length c, .func (.func g) #[] cb] w (Ret fun v_ w' => ∃ o' : Nat → Nat, ∃ ks' : List Int, v_ = .tuple #[] ∧ St [Lr] w o w' o' ∧ (ks'.Perm ks ∧ ks'.Pairwise fun a b => 0 ≤ cf b a) ∧ Ft (Own (encInt .i64) t3 (.slice A ks.length c) ks') w' o' Lr) := by
  by_cases h0 : ks = []
  · subst h0
    refine Calls.mono (AnyF.slices_SortFunc_none { L with } A c (.func (.func g) #[] cb) w) fun e w' he => ?_
    obtain ⟨rfl, rfl⟩ := he
    exact ⟨_, rfl, o, [], rfl, St.refl _ _ _, ⟨List.Perm.refl _, List.Pairwise.nil⟩, hr⟩
  · have hn := hr.now
    rcases hn.2 with ⟨h1, h2⟩ | ⟨gb, cap, cur, h1, _, hh, h3, h4, h5, h6⟩
    · exact absurd (List.length_eq_zero_iff.1 h2) h0
    injection h1 with h1 h1a h1b
    subst h1 h1b
    have hE : (encInt .i64).sz = 1 := rfl
    rw [hE, Nat.mul_one] at h5 h6
    rw [flatZ] at h6
    have hLg : o gb = Lr := Own.lab hr gb rfl
    have hlt := (Array.getElem?_eq_some_iff.1 hh).1
    have hds : ks.toArray.size = ks.length := by simp
    have hH : Holds (Value.int .i64) w gb 0 ks.toArray := by
      intro j hj
      rw [hds] at hj
      have hcur : cur[j]? = some (.int .i64 ks[j]) := by
        have := congrArg (·[j]?) h6
        rw [List.getElem?_take_of_lt hj, Array.getElem?_toList, List.getElem?_map, List.getElem?_eq_getElem hj, Option.map_some] at this
        exact this
      refine ⟨?_, ?_⟩
      · rw [getElem!_pos _ j (by simpa using hj), List.getElem_toArray]
        simp [World.cell?, hh, hcur]
      · simp [World.frozen?, hh]
    have hl : CmpLays1 P g cb (Value.int .i64) cf gb 0 ks.toArray.size w := by
      intro m os dk hdk x y
      refine Calls.mono (hcmp (sortWorld (Value.int .i64) w gb 0 m dk os) (sortWorld_st hLg o fun _ _ => rfl) x y) fun e w' he => ?_
      obtain ⟨he, rfl⟩ := he
      exact ⟨he, 1, #[], by rw [grow_empty]; rfl⟩
    have hc := Any.slices_SortFunc L (Value.int .i64) (fun _ => rfl) cf hO g cb gb 0 c ks.toArray w eg hl hH hlt (by rw [hds]; omega)
    rw [hds] at hc
    refine Calls.mono hc fun e w' he => ?_
    obtain ⟨rfl, d', n, os, ⟨p1, p2, p3⟩, hs, rfl⟩ := he
    have hdl : d'.size = ks.length := by rw [p1, hds]
    have hperm : d'.toList.Perm ks := by
      have e1 : (d'.extract 0 ks.length).toList = d'.toList := by
        rw [Array.toList_extract, List.extract_eq_take_drop, List.drop_zero, Nat.sub_zero]
        exact List.take_of_length_le (by rw [Array.length_toList]; omega)
      have e2 : (ks.toArray.extract 0 ks.length).toList = ks := by
        rw [Array.toList_extract, List.extract_eq_take_drop, List.drop_zero, Nat.sub_zero]
        exact List.take_of_length_le (Nat.le_refl _)
      rw [e1, e2] at p3
      exact p3
    refine ⟨_, rfl, fun b => if b < w.heap.size then o b else Lr, d'.toList, rfl, sortWorld_st hLg _ (fun b hb => by simp [hb]), ⟨hperm, ?_⟩, ?_⟩
    · rw [List.pairwise_iff_getElem]
      intro i j hi hj hij
      have := hs i j (Nat.zero_le _) hij (by rw [← hdl]; simpa using hj)
      have hi' : i < d'.size := by simpa using hi
      have hj' : j < d'.size := by simpa using hj
      rw [getElem!_pos d' j hj', getElem!_pos d' i hi'] at this
      unfold ltOf at this
      have h7 := of_decide_eq_false this
      simp only [Array.getElem_toList]
      omega
    · have hlen : d'.toList.length = ks.length := by rw [Array.length_toList, hdl]
      have hOwn : Own (encInt .i64) t3 (.slice (some ⟨gb, 0, none⟩) ks.length c) d'.toList (sortWorld (Value.int .i64) w gb 0 n d' os) := by
        refine ⟨?_, .inr ⟨gb, c, putCells (Value.int .i64) 0 d' cur, ?_, Nat.zero_le _, sortWorld_at hh, ?_, h4, ?_, ?_⟩⟩
        · rw [flatZ]; simp [hE]
        · rw [hlen]
        · rw [hlen]; exact h3
        · rw [hE, Nat.mul_one]; unfold putCells; rw [Array.size_mapIdx]; exact h5
        · rw [hE, Nat.mul_one, flatZ, Array.length_toList]
          exact take_put (by omega)
      refine hOwn.ft fun k hk => ?_
      have : k = gb := by
        simp only [Value.ownBlock, Option.some.injEq] at hk
        exact hk.symm
      subst this
      simp [hlt, hLg]
end
/-! ### A region that draws, to the letter -/
theorem xd_beginE {ρ : Option Nat} {P : Program} {Q : Exit → Act → World → Prop} {id : Nat} {a : Act} {w : World} {ol : List Oper} {m : Nat} {ls : Array Bool} (S : World → Prop) (hm : P.follows .mixedOrders = true) (hn : ol.toArray.size = m) (hls : Array.replicate m false = ls)
    (h : wpD ρ P ol.toArray Q S m ls a w.drew) : (Code.region id ol.toArray true).wpIn (WF ρ) 0 P Q a w := by
  subst hn; subst hls
  exact wpD_begin hm h
theorem drew_st (w : World) (o : Nat → Nat) : St [] w o w.drew o := St.drew [] w o
end Go.Proofs.XC
