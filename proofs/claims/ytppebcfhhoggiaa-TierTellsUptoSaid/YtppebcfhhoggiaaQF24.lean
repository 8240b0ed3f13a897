/- A function compiled again: what it is; facts of a code without a fault. -/
import Derived.Test.YtppebcfhhoggiaaQF22
import Derived.Test.YtppebcfhhoggiaaQF23
set_option linter.unusedVariables false
set_option linter.unusedSimpArgs false
namespace Go.Pw
open Go Go.Proofs
set_option maxRecDepth 8000
set_option maxHeartbeats 8000000
def firstP (c : Cod) (l : List Hint) (fn pc : Int) (i : Ins) : List Ins := match direct c l fn pc i with
  | some tn => [guardI i pc tn, callI i tn]
  | none => [i]
def firstAt (c : Cod) (l : List Hint) (fn : Int) (ins : List Ins) (j : Nat) : List Ins := match ins[j]? with
  | some i => firstP c l fn j i
  | none => []
def pass1 (c : Cod) (l : List Hint) (fn : Int) (ins : List Ins) (k : Nat) : List Ins := (List.range k).flatMap (firstAt c l fn ins)
def atOf (c : Cod) (l : List Hint) (fn : Int) (ins : List Ins) (k : Nat) : List Int := (List.range k).map fun j => ((pass1 c l fn ins j).length : Int)
def anyD (c : Cod) (l : List Hint) (fn : Int) (ins : List Ins) (k : Nat) : Bool := (List.range k).any fun j => match ins[j]? with
  | some i => (direct c l fn j i).isSome
  | none => false
def shortG (f : Fn) (at_ : List Int) (i : Ins) : Ins := if i.op = 27 then i else shortI f at_ i
def movedG (f : Fn) (i : Ins) : Bool := !decide (i.op = 27) && shortB f i
def fastOf (c : Cod) (l : List Hint) (fn : Int) (f : Fn) : Fn :=
  let n := f.ins.length
  let p := pass1 c l fn f.ins n
  ⟨f.name, f.params, f.holds, f.regs, if anyD c l fn f.ins n || p.any (movedG f) then p.map (shortG f (atOf c l fn f.ins n)) else []⟩
def Fn.zero : Fn := ⟨ByteArray.empty, 0, 0, 0, []⟩
theorem pass1_succ (c : Cod) (l : List Hint) (fn : Int) (ins : List Ins) (k : Nat) {x : Ins} (hx : ins[k]? = some x) : pass1 c l fn ins (k + 1) = pass1 c l fn ins k ++ firstP c l fn k x := by
  unfold pass1
  rw [List.range_succ, List.flatMap_append]
  simp [firstAt, hx]
theorem atOf_succ (c : Cod) (l : List Hint) (fn : Int) (ins : List Ins) (k : Nat) : atOf c l fn ins (k + 1) = atOf c l fn ins k ++ [((pass1 c l fn ins k).length : Int)] := by
  unfold atOf
  rw [List.range_succ, List.map_append]; rfl
theorem anyD_succ (c : Cod) (l : List Hint) (fn : Int) (ins : List Ins) (k : Nat) {x : Ins} (hx : ins[k]? = some x) : anyD c l fn ins (k + 1) = (anyD c l fn ins k || (direct c l fn k x).isSome) := by
  unfold anyD
  rw [List.range_succ, List.any_append]; simp [hx]
theorem pass1_len (c : Cod) (l : List Hint) (fn : Int) (ins : List Ins) : ∀ k, (pass1 c l fn ins k).length ≤ 2 * k
  | 0 => by simp [pass1]
  | k + 1 => by
    have := pass1_len c l fn ins k
    unfold pass1 at this ⊢
    rw [List.range_succ, List.flatMap_append, List.length_append]
    have h : (([k] : List Nat).flatMap (firstAt c l fn ins)).length ≤ 2 := by
      simp only [List.flatMap_cons, List.flatMap_nil, List.append_nil, firstAt]
      split
      · unfold firstP; split <;> simp
      · simp
    omega
theorem atOf_len (c : Cod) (l : List Hint) (fn : Int) (ins : List Ins) (k : Nat) : (atOf c l fn ins k).length = k := by simp [atOf]
theorem at_set (A : List Int) (n : Nat) (v : Int) (h : A.length < n) : (ints (A ++ List.replicate (n - A.length) 0)).set A.length [DI v] = ints ((A ++ [v]) ++ List.replicate (n - (A ++ [v]).length) 0) := by
  obtain ⟨m, hm⟩ : ∃ m, n - A.length = m + 1 := ⟨n - A.length - 1, by omega⟩
  have e : n - (A ++ [v]).length = m := by rw [List.length_append]; simp; omega
  rw [hm, e, List.replicate_succ]
  simp only [ints, List.map_append, List.map_cons]
  rw [List.set_append, if_neg (by simp)]
  simp
theorem mem_pass1 {c : Cod} {l : List Hint} {fn : Int} {ins : List Ins} {k : Nat} {y : Ins} (h : y ∈ pass1 c l fn ins k) : y.op = 27 ∨ (∃ tn i, y = callI i tn ∧ i ∈ ins) ∨ y ∈ ins := by
  unfold pass1 at h
  obtain ⟨j, _, hj⟩ := List.mem_flatMap.1 h
  unfold firstAt at hj
  split at hj
  · rename_i i hi
    unfold firstP at hj
    split at hj
    · simp only [List.mem_cons, List.not_mem_nil, or_false] at hj
      rcases hj with rfl | rfl
      · exact .inl rfl
      · exact .inr (.inl ⟨_, i, rfl, List.mem_of_getElem? hi⟩)
    · simp only [List.mem_cons, List.not_mem_nil, or_false] at hj
      subst hj
      exact .inr (.inr (List.mem_of_getElem? hi))
  · simp at hj
theorem funsErr_mem {c : Cod} : ∀ {l : List Fn}, funsErr c l = 0 → ∀ f ∈ l, funErr c f = 0
  | [], _, _, h => by cases h
  | g :: l, h, f, hf => by
    rw [funsErr] at h
    by_cases hg : funErr c g = 0
    · rw [if_pos hg] at h
      rcases List.mem_cons.1 hf with rfl | hf
      · exact hg
      · exact funsErr_mem h f hf
    · rw [if_neg hg] at h; exact absurd h hg
structure Good (c : Cod) : Prop where
  large : codLarge c = false
  acts : c.actors.all (actGood c) = true
  imps : c.impls.all (implGood c) = true
  mak : (c.makers.all fun m => !decide (m.args < 0)) = true
  fun0 : ∀ f ∈ c.funs, funErr c f = 0
theorem good_of {c : Cod} (h : codErr c = 0) : Good c := by
  unfold codErr at h
  split at h
  · cases h
  · rename_i hl
    split at h
    · rename_i hg
      simp only [Bool.and_eq_true] at hg
      exact ⟨by simpa using hl, hg.1, hg.2.1, hg.2.2, funsErr_mem h⟩
    · cases h
structure FnGood (c : Cod) (f : Fn) : Prop where
  len : f.ins.length ≤ 4000
  regs : f.regs ≤ 2000
  head : headBad f = false
  ins : ∀ (k : Nat) i, f.ins[k]? = some i → insGood c f k i = true
theorem fnGood_of {c : Cod} {f : Fn} (h : funErr c f = 0) : FnGood c f := by
  unfold funErr at h
  split at h
  · cases h
  · rename_i h1
    split at h
    · cases h
    · rename_i h2
      split at h
      · rename_i h3
        rw [allGood_iff] at h3
        exact ⟨by omega, by omega, by simpa using h2, fun k i hi => h3 k i (List.getElem?_eq_some_iff.1 hi).1 hi⟩
      · cases h
theorem FnGood.inside {c : Cod} {f : Fn} (h : FnGood c f) : inside f.ins := by
  intro i hi h3
  obtain ⟨k, hk⟩ := List.getElem?_of_mem hi
  have := h.ins k i hk
  simp only [insGood, Bool.and_eq_true] at this
  have h2 := this.1.1.2
  rw [show nextOf i k = [i.a] by simp [nextOf, h3]] at h2
  simpa [wi] using h2
theorem FnGood.tgt {c : Cod} {f : Fn} (h : FnGood c f) {i : Ins} (hi : i ∈ f.ins) : Tgt f.ins.length i := by
  obtain ⟨k, hk⟩ := List.getElem?_of_mem hi
  have hg := h.ins k i hk
  simp only [insGood, Bool.and_eq_true] at hg
  have h2 := List.all_eq_true.1 hg.1.1.2
  have hio := hg.2
  refine ⟨fun e => h2 _ (by simp [nextOf, e]), fun e => h2 _ (by simp [nextOf, e]), fun a ha => ?_, fun e => ?_⟩
  · by_cases h11 : i.op = 11
    · exact h2 _ (by simp only [nextOf, h11]; simp; exact ⟨a, ha, rfl⟩)
    · by_cases h16 : i.op = 16
      · exact h2 _ (by simp only [nextOf, h16]; simp; exact .inr ⟨a, ha, rfl⟩)
      · unfold armsOf at ha; rw [if_neg h11, if_neg h16] at ha; cases ha
  · have hps : ∃ ps, c.pats[i.b.toNat]? = some ps := by
      cases hp : c.pats[i.b.toNat]? with
      | some ps => exact ⟨ps, rfl⟩
      | none => simp [insOk, e, hp] at hio
    obtain ⟨ps, hp⟩ := hps
    simp [insOk, e, hp, armsB, lateOk] at hio
    cases ha : i.args with
    | nil => rw [ha] at hio; simp at hio
    | cons y l => exact ⟨y, l, rfl, fun hy => h2 _ (by simp only [nextOf, e, ha]; simp [hy])⟩
theorem FnGood.trait {c : Cod} {f : Fn} (h : FnGood c f) {i : Ins} (hi : i ∈ f.ins) (h7 : i.op = 7) : wi i.b c.texts.length = true ∧ 0 < i.args.length := by
  obtain ⟨k, hk⟩ := List.getElem?_of_mem hi
  have hg := h.ins k i hk
  simp only [insGood, Bool.and_eq_true] at hg
  have hio := hg.2
  simp [insOk, h7] at hio
  exact ⟨hio.1, by cases ha : i.args with | nil => simp [ha] at hio | cons => simp⟩
theorem tgt_call (n : Nat) (i : Ins) (tn : Int × Int) : Tgt n (callI i tn) := by
  have e : (callI i tn).op = 6 := rfl
  refine ⟨?_, ?_, ?_, ?_⟩
  · intro h; rw [e] at h; omega
  · intro h; rw [e] at h; omega
  · intro a ha
    have e : armsOf (callI i tn) = [] := by simp [armsOf, callI]
    rw [e] at ha; cases ha
  · intro h; rw [e] at h; omega
end Go.Pw
