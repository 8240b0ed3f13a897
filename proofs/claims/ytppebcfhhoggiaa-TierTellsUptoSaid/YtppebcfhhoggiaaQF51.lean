/- Sizes of a code that came in. -/
import Derived.Test.YtppebcfhhoggiaaQF27
import Derived.Test.YtppebcfhhoggiaaQF30
import Derived.Test.YtppebcfhhoggiaaQF46
import Derived.Test.YtppebcfhhoggiaaQF50
set_option linter.unusedVariables false
set_option linter.unusedSimpArgs false
namespace Go.Pw
open Go Go.Proofs
set_option maxRecDepth 8000
set_option maxHeartbeats 2000000
structure Cod.Big (c : Cod) : Prop where
  sz : c.Sz
  hdr : hdrN c ≤ 1099511627776
  fns : fnSum c.funs ≤ 1099511627776
  pats : patSum c.pats ≤ 1099511627776
  txt : c.texts.length + c.impls.length ≤ 1099511627776
  txN : Sm c.named.texts
theorem sum_mem {α : Type} (m : α → Nat) {x : α} : ∀ {l : List α}, x ∈ l → m x ≤ (l.map m).sum
  | y :: l, h => by
    rw [List.map_cons, List.sum_cons]
    rcases List.mem_cons.1 h with rfl | h
    · omega
    · have := sum_mem m h; omega
theorem sum_len {α : Type} (m : α → Nat) (hm : ∀ x, 1 ≤ m x) : ∀ l : List α, l.length ≤ (l.map m).sum
  | [] => by simp
  | y :: l => by
    have := sum_len m hm l
    have := hm y
    rw [List.map_cons, List.sum_cons, List.length_cons]; omega
theorem argSum_le : ∀ l : List Ins, l.length + argSum l ≤ (l.map insM).sum
  | [] => by simp [argSum]
  | y :: l => by
    have := argSum_le l
    rw [List.map_cons, List.sum_cons, argSum, List.length_cons]
    simp only [insM]; omega
theorem fnSum_le : ∀ l : List Fn, fnSum l ≤ (l.map fnM).sum
  | [] => by simp [fnSum]
  | y :: l => by
    have := fnSum_le l
    have := argSum_le y.ins
    rw [List.map_cons, List.sum_cons, fnSum]
    simp only [fnM]; omega
mutual
theorem psize_le : ∀ p : Pat, psize p ≤ patM p
  | .mk k n t l => by
    have := psizes_le l
    rw [psize, patM]; omega
theorem psizes_le : ∀ l : List Pat, psizes l ≤ patsM l
  | [] => by rw [psizes, patsM]; exact Nat.le_refl _
  | p :: l => by
    have := psize_le p
    have := psizes_le l
    rw [psizes, patsM]; omega
end
theorem patSum_le : ∀ l : List (List Pat), patSum l ≤ (l.map fun p => patsM p + 1).sum
  | [] => by simp [patSum]
  | y :: l => by
    have := patSum_le l
    have := psizes_le y
    rw [List.map_cons, List.sum_cons, patSum]; omega
theorem addNames_sum : ∀ (is : List Impl) (l : List ByteArray), ((addNames l is).map fun s => s.size + 1).sum ≤ (l.map fun s => s.size + 1).sum + (is.map impM).sum
  | [], l => by simp [addNames]
  | i :: is, l => by
    rw [addNames, List.map_cons, List.sum_cons]
    split
    · have := addNames_sum is l; omega
    · have := addNames_sum is (l ++ [i.for_])
      rw [List.map_append, List.sum_append, List.map_cons, List.map_nil, List.sum_cons, List.sum_nil] at this
      simp only [impM] at this ⊢; omega
theorem big_of {c : Cod} (h : codM c ≤ 1048576) : c.Big ∧ codM c.named ≤ 2097152 := by
  unfold codM at h
  have t1 := sum_len (fun s : ByteArray => s.size + 1) (fun x => by omega) c.texts
  have t2 := sum_len fnM (fun x => by unfold fnM; omega) c.funs
  have t3 := sum_len actM (fun x => by unfold actM; omega) c.actors
  have t4 := sum_len impM (fun x => by unfold impM; omega) c.impls
  have t5 := sum_len makM (fun x => by unfold makM; omega) c.makers
  have t6 := sum_len (fun p : List Pat => patsM p + 1) (fun x => by omega) c.pats
  have t7 := addNames_sum c.impls c.texts
  have t8 := sum_len (fun s : ByteArray => s.size + 1) (fun x => by omega) (addNames c.texts c.impls)
  have t9 := fnSum_le c.funs
  have t10 := patSum_le c.pats
  have f1 : ∀ f ∈ c.funs, (f.ins.map insM).sum ≤ 1048576 := fun f hf => by
    have := sum_mem fnM hf
    simp only [fnM] at this; omega
  have f2 : ∀ f ∈ c.funs, f.ins.length ≤ 1048576 := fun f hf => by
    have := f1 f hf
    have := argSum_le f.ins; omega
  have f3 : ∀ f ∈ c.funs, ∀ i ∈ f.ins, i.args.length ≤ 1048576 := fun f hf i hi => by
    have := f1 f hf
    have := sum_mem insM hi
    simp only [insM] at this; omega
  refine ⟨⟨⟨⟨?_, ?_, ?_, ?_, ?_, ?_, ?_, ?_, ?_, ?_⟩, ?_, f2, f3⟩, ?_, ?_, ?_, ?_, ?_⟩, ?_⟩
  · show _ ≤ _; omega
  · show _ ≤ _; omega
  · show _ ≤ _; omega
  · show _ ≤ _; omega
  · show _ ≤ _; omega
  · show _ ≤ _; omega
  · show _ ≤ _; omega
  · intro f hf; have := f2 f hf; show _ ≤ _; omega
  · intro f hf i hi; have := f3 f hf i hi; show _ ≤ _; omega
  · intro p hp
    have := sum_mem (fun p : List Pat => patsM p + 1) hp
    have := psizes_le p
    omega
  · omega
  · unfold hdrN; omega
  · omega
  · omega
  · omega
  · show (addNames c.texts c.impls).length ≤ _; omega
  · unfold codM
    simp only [Cod.named]; omega
theorem foldl_sum {α : Type} (g : α → ByteArray) : ∀ (l : List α) (s : ByteArray), (l.foldl (fun s x => s ++ g x) s).size = s.size + (l.map fun x => (g x).size).sum
  | [], s => by simp
  | x :: l, s => by rw [List.foldl_cons, foldl_sum g l, app_size, List.map_cons, List.sum_cons]; omega
theorem sum_scale {α : Type} (f m : α → Nat) (K : Nat) : ∀ l : List α, (∀ x ∈ l, f x ≤ K * m x) → (l.map f).sum ≤ K * (l.map m).sum
  | [], _ => by simp
  | x :: l, h => by
    have h1 := h x (by simp)
    have h2 := sum_scale f m K l fun y hy => h y (List.mem_cons_of_mem _ hy)
    rw [List.map_cons, List.map_cons, List.sum_cons, List.sum_cons, Nat.mul_add]; omega
theorem listG_sum {α : Type} (l : List α) (g : α → ByteArray) : (listG l g).size ≤ 10 + (l.map fun x => (g x).size).sum := by
  have := numS_size l.length
  unfold listG
  rw [foldl_sum]; omega
theorem listG_scale {α : Type} (l : List α) (g : α → ByteArray) (m : α → Nat) (K : Nat) (h : ∀ x ∈ l, (g x).size ≤ K * m x) : (listG l g).size ≤ 10 + K * (l.map m).sum := by
  have h1 := listG_sum l g
  have h2 := sum_scale (fun x => (g x).size) m K l h
  omega
theorem insS_le (i : Ins) : (insS i).size ≤ 40 * insM i := by
  have h1 := numsS_size [i.op, i.a, i.b, i.c, (i.args.length : Int)]
  have h2 := numsS_size i.args
  simp only [List.length_cons, List.length_nil] at h1
  unfold insS; rw [app_size]; simp only [insM]; omega
theorem getD_at {α : Type} {l : List α} {i : Nat} {x z : α} (h : l[i]? = some x) : l.getD i z = x := by simp [List.getD, h]
theorem fnS_le (f : Fn) : (fnS f).size ≤ 40 * fnM f := by
  have h1 := textS_size f.name
  have h2 := numsS_size [f.params, f.holds, f.regs]
  have h3 := listG_scale f.ins insS insM 40 fun x _ => insS_le x
  have h4 : listS f.ins.length (fun j => insS (f.ins.getD j ⟨0, 0, 0, 0, []⟩)) = listG f.ins insS := listS_eq f.ins insS _ fun i x hx => by rw [getD_at hx]
  simp only [List.length_cons, List.length_nil] at h2
  unfold fnS
  rw [app_size, app_size, h4]; simp only [fnM]; omega
theorem actS_le (a : Actr) : (actS a).size ≤ 40 * actM a := by
  have h1 := textS_size a.name
  have h2 := numsS_size [a.states, a.fn, if a.top then 1 else 0]
  simp only [List.length_cons, List.length_nil] at h2
  unfold actS; rw [app_size]; simp only [actM]; omega
theorem implS_le (a : Impl) : (implS a).size ≤ 40 * impM a := by
  have h1 := textS_size a.name
  have h2 := textS_size a.for_
  have h3 := numS_size a.fn
  unfold implS; rw [app_size, app_size]; simp only [impM]; omega
theorem makS_le (a : Maker) : (makS a).size ≤ 40 * makM a := by
  have h1 := textS_size a.name
  have h2 := textS_size a.data
  have h3 := numS_size a.args
  unfold makS; rw [app_size, app_size]; simp only [makM]; omega
mutual
theorem patS_le : ∀ p : Pat, (patS p).size ≤ 40 * patM p
  | .mk k n t l => by
    have h1 := textS_size t
    have h2 := numsS_size [k, n]
    have h3 := numS_size l.length
    have h4 := patsS_le l (numS l.length)
    simp only [List.length_cons, List.length_nil] at h2
    rw [patS, app_size, app_size, patM]; omega
theorem patsS_le : ∀ (l : List Pat) (s : ByteArray), (patsS s l).size ≤ s.size + 40 * patsM l
  | [], s => by rw [patsS, patsM]; omega
  | p :: l, s => by
    have h1 := patS_le p
    have h2 := patsS_le l (s ++ patS p)
    rw [app_size] at h2
    rw [patsS, patsM]; omega
end
theorem patsA_le (l : List Pat) : (patsA l).size ≤ 40 * (patsM l + 1) := by
  have h3 := listG_scale l patS patM 40 fun x _ => patS_le x
  have h4 : listS l.length (fun j => patS (l.getD j pat0)) = listG l patS := listS_eq l patS _ fun i x hx => by rw [getD_at hx]
  rw [patsM_sum] at h3
  unfold patsA; rw [h4]; omega
theorem pat_ok : ∀ (n : Nat) (p : Pat), PatI p → patM p ≤ n → n ≤ 2097152 → PatOk n p
  | 0, .mk _ _ _ _, _, h, _ => by rw [patM] at h; omega
  | n + 1, .mk k m t l, hi, h, hn => by
    have h1 := patS_le (.mk k m t l)
    cases hi with
    | mk hk hm hl =>
      rw [patM] at h h1
      have h2 := patsM_sum l
      have h3 := sum_len patM (fun x => by cases x; rw [patM]; omega) l
      refine ⟨hk, hm, ?_, ?_, ?_, fun x hx => ?_⟩
      · show t.size ≤ _; omega
      · omega
      · show l.length ≤ _; omega
      · have h4 := sum_mem patM (show x ∈ l from hx)
        exact pat_ok n x (hl x hx) (by omega) (by omega)
theorem named_I {c : Cod} (h : CodI c) : CodI c.named := ⟨h.nums, h.funs, h.actors, h.impls, h.makers, h.pats⟩
theorem pk_of {c : Cod} (h : codM c ≤ 2097152) (hi : CodI c) : c.Pk 2097152 := by
  have h0 := h
  unfold codM at h
  have t1 := sum_len (fun s : ByteArray => s.size + 1) (fun x => by omega) c.texts
  have t2 := sum_len fnM (fun x => by unfold fnM; omega) c.funs
  have t3 := sum_len actM (fun x => by unfold actM; omega) c.actors
  have t4 := sum_len impM (fun x => by unfold impM; omega) c.impls
  have t5 := sum_len makM (fun x => by unfold makM; omega) c.makers
  have t6 := sum_len (fun p : List Pat => patsM p + 1) (fun x => by omega) c.pats
  refine ⟨⟨?_, fun s hs => ?_⟩, ⟨?_, hi.nums⟩, ⟨?_, fun f hf => ?_⟩, ⟨?_, fun a ha => ?_⟩, ⟨?_, fun a ha => ?_⟩, ⟨?_, fun a ha => ?_⟩, ⟨?_, fun p hp => ⟨?_, fun x hx => ?_⟩⟩, ?_⟩
  · show _ ≤ _; omega
  · have := sum_mem (fun s : ByteArray => s.size + 1) hs
    omega
  · show _ ≤ _; omega
  · show _ ≤ _; omega
  · have h1 := sum_mem fnM hf
    obtain ⟨i1, i2, i3, i4⟩ := hi.funs f hf
    simp only [fnM] at h1
    have h2 := argSum_le f.ins
    refine ⟨by omega, i1, i2, i3, by show _ ≤ _; omega, fun x hx => ?_⟩
    obtain ⟨j1, j2, j3, j4, j5⟩ := i4 x hx
    have h3 := sum_mem insM hx
    simp only [insM] at h3
    exact ⟨by show _ ≤ _; omega, j1, j2, j3, j4, j5⟩
  · show _ ≤ _; omega
  · have h1 := sum_mem actM ha
    simp only [actM] at h1
    exact ⟨by omega, (hi.actors a ha).1, (hi.actors a ha).2⟩
  · show _ ≤ _; omega
  · have h1 := sum_mem impM ha
    simp only [impM] at h1
    exact ⟨by omega, by omega, hi.impls a ha⟩
  · show _ ≤ _; omega
  · have h1 := sum_mem makM ha
    simp only [makM] at h1
    exact ⟨by omega, by omega, hi.makers a ha⟩
  · show _ ≤ _; omega
  · have h1 := sum_mem (fun p : List Pat => patsM p + 1) hp
    skip
    have h2 := patsM_sum p
    have h3 := sum_len patM (fun x => by cases x; rw [patM]; omega) p
    show _ ≤ _; omega
  · have h1 := sum_mem (fun p : List Pat => patsM p + 1) hp
    skip
    have h2 := patsM_sum p
    have h3 := sum_mem patM hx
    exact pat_ok 2097152 x (hi.pats p hp x hx) (by omega) (Nat.le_refl _)
  · have s1 := listG_scale c.texts textS (fun s => s.size + 1) 40 fun x _ => by have := textS_size x; omega
    have s2 := numS_size c.nums.length
    have s3 := numsS_size c.nums
    have s4 := listG_scale c.funs fnS fnM 40 fun x _ => fnS_le x
    have s5 := listG_scale c.actors actS actM 40 fun x _ => actS_le x
    have s6 := listG_scale c.impls implS impM 40 fun x _ => implS_le x
    have s7 := listG_scale c.makers makS makM 40 fun x _ => makS_le x
    have s8 := listG_scale c.pats patsA (fun p => patsM p + 1) 40 fun x _ => patsA_le x
    have s0 : (⟨#[82, 67, 49]⟩ : ByteArray).size = 3 := rfl
    unfold packS
    rw [app_size, app_size, app_size, app_size, app_size, app_size, app_size, app_size, s0]
    omega
end Go.Pw
