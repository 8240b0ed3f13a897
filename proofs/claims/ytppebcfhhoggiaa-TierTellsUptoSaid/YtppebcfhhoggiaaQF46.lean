/- Functions of the law: a code that is small. -/
import Derived.Test.YtppebcfhhoggiaaQF18
import Derived.Test.YtppebcfhhoggiaaQF21
set_option linter.unusedVariables false
set_option linter.unusedSimpArgs false
namespace Go.Pw
open Go Go.Proofs
attribute [local irreducible] runL W endD thenQ blockQ loopQ
set_option maxRecDepth 8000
set_option maxHeartbeats 8000000
def argSum : List Ins → Nat
  | [] => 0
  | i :: l => i.args.length + argSum l
def fnSum : List Fn → Nat
  | [] => 0
  | f :: l => (1 + f.ins.length + argSum f.ins) + fnSum l
def patSum : List (List Pat) → Nat
  | [] => 0
  | p :: l => psizes p + patSum l
def nodSum : List (List Pat) → Int
  | [] => 0
  | p :: l => nodesL p 200 + nodSum l
theorem argSum_app : ∀ l k : List Ins, argSum (l ++ k) = argSum l + argSum k
  | [], k => by simp [argSum]
  | p :: l, k => by rw [List.cons_append, argSum, argSum, argSum_app l k]; omega
theorem fnSum_app : ∀ l k : List Fn, fnSum (l ++ k) = fnSum l + fnSum k
  | [], k => by simp [fnSum]
  | p :: l, k => by rw [List.cons_append, fnSum, fnSum, fnSum_app l k]; omega
theorem nodSum_app : ∀ l k : List (List Pat), nodSum (l ++ k) = nodSum l + nodSum k
  | [], k => by simp [nodSum]
  | p :: l, k => by rw [List.cons_append, nodSum, nodSum, nodSum_app l k]; omega
theorem patSum_app : ∀ l k : List (List Pat), patSum (l ++ k) = patSum l + patSum k
  | [], k => by simp [patSum]
  | p :: l, k => by rw [List.cons_append, patSum, patSum, patSum_app l k]; omega
theorem nodSum_le : ∀ l : List (List Pat), 0 ≤ nodSum l ∧ nodSum l ≤ 1000 * patSum l
  | [] => by simp [nodSum, patSum]
  | p :: l => by
    have := nodSum_le l
    have := nodesL_le p 200
    rw [nodSum, patSum]; omega
theorem argSum_succ {l : List Ins} {k : Nat} {x : Ins} (hx : l[k]? = some x) : argSum (l.take (k + 1)) = argSum (l.take k) + x.args.length := by
  rw [List.take_add_one, hx, argSum_app]; simp [argSum]
theorem fnSum_succ {l : List Fn} {k : Nat} {x : Fn} (hx : l[k]? = some x) : fnSum (l.take (k + 1)) = fnSum (l.take k) + (1 + x.ins.length + argSum x.ins) := by
  rw [List.take_add_one, hx, fnSum_app]; simp [fnSum]
theorem patSum_succ {l : List (List Pat)} {k : Nat} {x : List Pat} (hx : l[k]? = some x) : patSum (l.take (k + 1)) = patSum (l.take k) + psizes x := by
  rw [List.take_add_one, hx, patSum_app]; simp [patSum]
theorem nodSum_succ {l : List (List Pat)} {k : Nat} {x : List Pat} (hx : l[k]? = some x) : nodSum (l.take (k + 1)) = nodSum (l.take k) + nodesL x 200 := by
  rw [List.take_add_one, hx, nodSum_app]; simp [nodSum]
theorem argSum_take (l : List Ins) (k : Nat) : argSum (l.take k) ≤ argSum l := by
  have := argSum_app (l.take k) (l.drop k)
  rw [List.take_append_drop] at this; omega
theorem fnSum_take (l : List Fn) (k : Nat) : fnSum (l.take k) ≤ fnSum l := by
  have := fnSum_app (l.take k) (l.drop k)
  rw [List.take_append_drop] at this; omega
theorem patSum_take (l : List (List Pat)) (k : Nat) : patSum (l.take k) ≤ patSum l := by
  have := patSum_app (l.take k) (l.drop k)
  rw [List.take_append_drop] at this; omega
theorem psizes_take (l : List Pat) (k : Nat) : psizes (l.take k) ≤ psizes l := by
  have := psizes_app (l.take k) (l.drop k)
  rw [List.take_append_drop] at this; omega
theorem nodesL_succ {l : List Pat} {k : Nat} {x : Pat} (m : Int) (hx : l[k]? = some x) : nodesL (l.take (k + 1)) m = nodesL (l.take k) m + nodesOf x m := by
  rw [List.take_add_one, hx, nodesL_app]; simp [nodesL]
def hdrN (c : Cod) : Int := (c.texts.length : Int) + c.nums.length + c.impls.length + c.makers.length + c.actors.length + c.pats.length
def smallN (c : Cod) : Int := hdrN c + fnSum c.funs + nodSum c.pats
def smallB (c : Cod) : Bool := (c.funs.all fun f => !decide (100 < f.regs)) && decide (smallN c ≤ 600)
theorem C4 (c : Cod) (hc : c.Ok) (hh : hdrN c ≤ 1099511627776) (hf : fnSum c.funs ≤ 1099511627776) (hp : patSum c.pats ≤ 1099511627776) : C Try.prog 4 [c.av] [] (dBool (smallB c)) [] [] := by
  have hb : smallB c = ((c.funs.all fun f => !decide (100 < f.regs)) && decide (hdrN c + fnSum c.funs + nodSum c.pats ≤ 600)) := rfl
  rw [hb]
  have hH : (c.texts.length : Int) + c.nums.length + c.impls.length + c.makers.length + c.actors.length + c.pats.length = hdrN c := rfl
  have hH0 : 0 ≤ hdrN c := by rw [← hH]; omega
  have b1 : (c.texts.length : Int) ≤ 1099511627776 := by omega
  have b2 : (c.nums.length : Int) ≤ 1099511627776 := by omega
  have b3 : (c.impls.length : Int) ≤ 1099511627776 := by omega
  have b4 : (c.makers.length : Int) ≤ 1099511627776 := by omega
  have b5 : (c.actors.length : Int) ≤ 1099511627776 := by omega
  have b6 : (c.pats.length : Int) ≤ 1099511627776 := by omega
  generalize hdrN c = H at *
  have hcf := hc.funs
  have hcp := hc.pats
  refine C_intro T_ok (rs := [.tmp 2]) Try.func4 rfl rfl rfl (Nat.le_of_ble_eq_true rfl) (Nat.le_of_ble_eq_true rfl) rfl ⟨rfl, rfl⟩ rfl fun cx hn => ?_
  have hn : cx.n = 86 := hn
  have Y := And.intro T3 (And.intro T4 (And.intro T9 (And.intro T22 (And.intro T23 (And.intro T24 (And.intro T25 (And.intro T26 (And.intro T27 (And.intro T28 (And.intro T30 (And.intro T38 (And.intro T40 (And.intro T60 (And.intro T61 (And.intro T63 (And.intro T67 (And.intro T75 (T77))))))))))))))))))
  simp only [enumA, enumO, Nat.reduceAdd]
  have E := @hH
  repeat' first | refine R_nil ?_ | ((with_reducible apply tagG); first | refine qg1 ?_ | refine qg2 ?_ | refine qg3 ?_ | refine qg4 ?_ | refine qg5 ?_ | refine qg6 (fun hb => ?_) (fun hb => ?_)) | ((with_reducible apply tagS); first | ((with_reducible apply tagD); first | refine qd1 ?_ | refine qd3 ?_) | ((with_reducible apply tagR); first | refine qr1 ?_ | refine qr3 ?_)) | ((with_reducible apply tagN); first | ((with_reducible apply tagD); first | refine qd2 ?_ | refine qd4 ?_) | ((with_reducible apply tagR); first | refine qr2 ?_ | refine qr4 ?_)) | ((with_reducible apply tagW); first | refine qw1 ?_ | refine qw2 ?_ | refine qw3 ?_ | refine qw4 ?_ | refine qw5 ?_ | refine qw6 (fun hb => ?_) (fun hb => ?_) | refine qw7 ?_ | refine qw8 ?_ | refine qw9 ?_ | refine qw0 ?_) | refine thenQ_n ?_ | refine thenQ_e ?_ | refine thenQ_r ?_ | refine blockQ_n ?_ | refine blockQ_r ?_ | refine blockQ_hit ?_ | refine qb4 ?_ | refine qe ?_ | refine loopQ_e ?_ | refine loopQ_r ?_
  all_goals clear E
  clear hH
  refine W_loopQ (fun k : Nat => [(38, dInt k), (37, dInt c.funs.length), (36, .d (.sl (fns c.funs))), (1, .ptr 1 0 0), (3, dInt (H + fnSum (c.funs.take k)))]) (fun _ => [(1, some (.box c.cells))]) (fun k => c.funs.length - k) (fun k => k ≤ c.funs.length ∧ ((c.funs.take k).all fun f => !decide (100 < f.regs)) = true) 0 ⟨by omega, rfl⟩ (by simp only [List.take_zero, fnSum, Int.natCast_zero, Int.add_zero]; exact qs) fun k ⟨hk, hall⟩ => ?_
  · by_cases hkl : k < c.funs.length
    · obtain ⟨f, hff⟩ := get_ex hkl
      have hk1 : (k:Int) < c.funs.length := by omega
      have eF := fnSum_succ hff
      have eF2 := fnSum_take c.funs (k + 1)
      have eX : H + (fnSum (c.funs.take (k + 1)) : Int) = H + (fnSum (c.funs.take k) : Int) + (1 + f.ins.length) + argSum f.ins := by rw [eF]; omega
      have hX : H + (fnSum (c.funs.take k) : Int) ≤ 2199023255552 := by omega
      have hX0 : 0 ≤ H + (fnSum (c.funs.take k) : Int) := by omega
      generalize H + (fnSum (c.funs.take k) : Int) = X at *
      have E := And.intro @hk1 ((fns_get hff))
      repeat' first | refine R_nil ?_ | ((with_reducible apply tagG); first | refine qg1 ?_ | refine qg2 ?_ | refine qg3 ?_ | refine qg4 ?_ | refine qg5 ?_ | refine qg6 (fun hb => ?_) (fun hb => ?_)) | ((with_reducible apply tagS); first | ((with_reducible apply tagD); first | refine qd1 ?_ | refine qd3 ?_) | ((with_reducible apply tagR); first | refine qr1 ?_ | refine qr3 ?_)) | ((with_reducible apply tagN); first | ((with_reducible apply tagD); first | refine qd2 ?_ | refine qd4 ?_) | ((with_reducible apply tagR); first | refine qr2 ?_ | refine qr4 ?_)) | ((with_reducible apply tagW); first | refine qw1 ?_ | refine qw2 ?_ | refine qw3 ?_ | refine qw4 ?_ | refine qw5 ?_ | refine qw6 (fun hb => ?_) (fun hb => ?_) | refine qw7 ?_ | refine qw8 ?_ | refine qw9 ?_ | refine qw0 ?_) | refine thenQ_n ?_ | refine thenQ_e ?_ | refine thenQ_r ?_ | refine blockQ_n ?_ | refine blockQ_r ?_ | refine blockQ_hit ?_ | refine qb4 ?_ | refine qe ?_ | refine loopQ_e ?_ | refine loopQ_r ?_
      all_goals clear E
      refine W_loopQ (fun j : Nat => [(51, dInt j), (50, dInt f.ins.length), (49, .d (.sl (inss f.ins))), (3, dInt (X + (1 + f.ins.length) + argSum (f.ins.take j))), (5, .ptr 5 0 0), (38, dInt k), (37, dInt c.funs.length), (36, .d (.sl (fns c.funs))), (1, .ptr 1 0 0)]) (fun _ => [(5, some (.box f.cells)), (1, some (.box c.cells))]) (fun j => f.ins.length - j) (fun j => j ≤ f.ins.length) 0 (by omega) (by simp only [List.take_zero, argSum, Int.natCast_zero, Int.add_zero]; exact qs) fun j hj => ?_
      by_cases hjl : j < f.ins.length
      · obtain ⟨x, hx⟩ := get_ex hjl
        have hj1 : (j:Int) < f.ins.length := by omega
        have eA := argSum_succ hx
        have eA2 := argSum_take f.ins (j + 1)
        have eY : X + (1 + (f.ins.length : Int)) + (argSum (f.ins.take (j + 1)) : Int) = X + (1 + (f.ins.length : Int)) + (argSum (f.ins.take j) : Int) + x.args.length := by rw [eA]; omega
        have E := And.intro @hj1 ((inss_get hx))
        repeat' first | refine R_nil ?_ | ((with_reducible apply tagG); first | refine qg1 ?_ | refine qg2 ?_ | refine qg3 ?_ | refine qg4 ?_ | refine qg5 ?_ | refine qg6 (fun hb => ?_) (fun hb => ?_)) | ((with_reducible apply tagS); first | ((with_reducible apply tagD); first | refine qd1 ?_ | refine qd3 ?_) | ((with_reducible apply tagR); first | refine qr1 ?_ | refine qr3 ?_)) | ((with_reducible apply tagN); first | ((with_reducible apply tagD); first | refine qd2 ?_ | refine qd4 ?_) | ((with_reducible apply tagR); first | refine qr2 ?_ | refine qr4 ?_)) | ((with_reducible apply tagW); first | refine qw1 ?_ | refine qw2 ?_ | refine qw3 ?_ | refine qw4 ?_ | refine qw5 ?_ | refine qw6 (fun hb => ?_) (fun hb => ?_) | refine qw7 ?_ | refine qw8 ?_ | refine qw9 ?_ | refine qw0 ?_) | refine thenQ_n ?_ | refine thenQ_e ?_ | refine thenQ_r ?_ | refine blockQ_n ?_ | refine blockQ_r ?_ | refine blockQ_hit ?_ | refine qb4 ?_ | refine qe ?_ | refine loopQ_e ?_ | refine loopQ_r ?_
        all_goals clear E
        refine loopQ_n (j + 1) (by omega) (by omega) (by rw [eY]; exact qs)
      · have hj0 : ¬ (j:Int) < f.ins.length := by omega
        have ej : j = f.ins.length := by omega
        subst ej
        rw [List.take_length]
        by_cases hr : 100 < f.regs
        · have er : (c.funs.all fun f => !decide (100 < f.regs)) = false := by
            rw [List.all_eq_false]
            exact ⟨f, List.mem_of_getElem? hff, by simp [hr]⟩
          rw [er]
          have E := And.intro @hj0 (@hr)
          repeat' first | refine R_nil ?_ | ((with_reducible apply tagG); first | refine qg1 ?_ | refine qg2 ?_ | refine qg3 ?_ | refine qg4 ?_ | refine qg5 ?_ | refine qg6 (fun hb => ?_) (fun hb => ?_)) | ((with_reducible apply tagS); first | ((with_reducible apply tagD); first | refine qd1 ?_ | refine qd3 ?_) | ((with_reducible apply tagR); first | refine qr1 ?_ | refine qr3 ?_)) | ((with_reducible apply tagN); first | ((with_reducible apply tagD); first | refine qd2 ?_ | refine qd4 ?_) | ((with_reducible apply tagR); first | refine qr2 ?_ | refine qr4 ?_)) | ((with_reducible apply tagW); first | refine qw1 ?_ | refine qw2 ?_ | refine qw3 ?_ | refine qw4 ?_ | refine qw5 ?_ | refine qw6 (fun hb => ?_) (fun hb => ?_) | refine qw7 ?_ | refine qw8 ?_ | refine qw9 ?_ | refine qw0 ?_) | refine thenQ_n ?_ | refine thenQ_e ?_ | refine thenQ_r ?_ | refine blockQ_n ?_ | refine blockQ_r ?_ | refine blockQ_hit ?_ | refine qb4 ?_ | refine qe ?_ | refine loopQ_e ?_ | refine loopQ_r ?_
          all_goals clear E
          exact ret_d rfl rfl
        · have E := And.intro @hj0 (@hr)
          repeat' first | refine R_nil ?_ | ((with_reducible apply tagG); first | refine qg1 ?_ | refine qg2 ?_ | refine qg3 ?_ | refine qg4 ?_ | refine qg5 ?_ | refine qg6 (fun hb => ?_) (fun hb => ?_)) | ((with_reducible apply tagS); first | ((with_reducible apply tagD); first | refine qd1 ?_ | refine qd3 ?_) | ((with_reducible apply tagR); first | refine qr1 ?_ | refine qr3 ?_)) | ((with_reducible apply tagN); first | ((with_reducible apply tagD); first | refine qd2 ?_ | refine qd4 ?_) | ((with_reducible apply tagR); first | refine qr2 ?_ | refine qr4 ?_)) | ((with_reducible apply tagW); first | refine qw1 ?_ | refine qw2 ?_ | refine qw3 ?_ | refine qw4 ?_ | refine qw5 ?_ | refine qw6 (fun hb => ?_) (fun hb => ?_) | refine qw7 ?_ | refine qw8 ?_ | refine qw9 ?_ | refine qw0 ?_) | refine thenQ_n ?_ | refine thenQ_e ?_ | refine thenQ_r ?_ | refine blockQ_n ?_ | refine blockQ_r ?_ | refine blockQ_hit ?_ | refine qb4 ?_ | refine qe ?_ | refine loopQ_e ?_ | refine loopQ_r ?_
          all_goals clear E
          refine loopQ_n (k + 1) (by omega) ⟨by omega, ?_⟩ (by rw [eX]; exact qs)
          rw [List.take_add_one, hff, List.all_append, hall]
          simp [Int.not_lt.1 hr]
    · have hk0 : ¬ (k:Int) < c.funs.length := by omega
      have ek : k = c.funs.length := by omega
      subst ek
      rw [List.take_length] at hall ⊢
      rw [hall]
      have hX : H + (fnSum c.funs : Int) ≤ 2199023255552 := by omega
      have hX0 : 0 ≤ H + (fnSum c.funs : Int) := by omega
      generalize H + (fnSum c.funs : Int) = X at *
      have E := @hk0
      repeat' first | refine R_nil ?_ | ((with_reducible apply tagG); first | refine qg1 ?_ | refine qg2 ?_ | refine qg3 ?_ | refine qg4 ?_ | refine qg5 ?_ | refine qg6 (fun hb => ?_) (fun hb => ?_)) | ((with_reducible apply tagS); first | ((with_reducible apply tagD); first | refine qd1 ?_ | refine qd3 ?_) | ((with_reducible apply tagR); first | refine qr1 ?_ | refine qr3 ?_)) | ((with_reducible apply tagN); first | ((with_reducible apply tagD); first | refine qd2 ?_ | refine qd4 ?_) | ((with_reducible apply tagR); first | refine qr2 ?_ | refine qr4 ?_)) | ((with_reducible apply tagW); first | refine qw1 ?_ | refine qw2 ?_ | refine qw3 ?_ | refine qw4 ?_ | refine qw5 ?_ | refine qw6 (fun hb => ?_) (fun hb => ?_) | refine qw7 ?_ | refine qw8 ?_ | refine qw9 ?_ | refine qw0 ?_) | refine thenQ_n ?_ | refine thenQ_e ?_ | refine thenQ_r ?_ | refine blockQ_n ?_ | refine blockQ_r ?_ | refine blockQ_hit ?_ | refine qb4 ?_ | refine qe ?_ | refine loopQ_e ?_ | refine loopQ_r ?_
      all_goals clear E
      refine W_loopQ (fun k : Nat => [(68, dInt k), (67, dInt c.pats.length), (66, .d (.sl (patss c.pats))), (3, dInt (X + nodSum (c.pats.take k)))]) (fun _ => []) (fun k => c.pats.length - k) (fun k => k ≤ c.pats.length) 0 (by omega) (by simp only [List.take_zero, nodSum, Int.add_zero]; exact qs) fun k hk => ?_
      by_cases hkl : k < c.pats.length
      · obtain ⟨p, hpp⟩ := get_ex hkl
        have hk1 : (k:Int) < c.pats.length := by omega
        have n1 := nodSum_le (c.pats.take k)
        have n2 := patSum_succ hpp
        have n3 := patSum_take c.pats (k + 1)
        have eN := nodSum_succ hpp
        have eX : X + nodSum (c.pats.take (k + 1)) = X + nodSum (c.pats.take k) + nodesL p 200 := by rw [eN]; omega
        have hV : X + nodSum (c.pats.take k) ≤ 4503599627370496 := by omega
        have hV0 : 0 ≤ X + nodSum (c.pats.take k) := by omega
        generalize X + nodSum (c.pats.take k) = V at *
        have hpl := psizes_len p
        have E := And.intro @hk1 ((patss_get hpp))
        repeat' first | refine R_nil ?_ | ((with_reducible apply tagG); first | refine qg1 ?_ | refine qg2 ?_ | refine qg3 ?_ | refine qg4 ?_ | refine qg5 ?_ | refine qg6 (fun hb => ?_) (fun hb => ?_)) | ((with_reducible apply tagS); first | ((with_reducible apply tagD); first | refine qd1 ?_ | refine qd3 ?_) | ((with_reducible apply tagR); first | refine qr1 ?_ | refine qr3 ?_)) | ((with_reducible apply tagN); first | ((with_reducible apply tagD); first | refine qd2 ?_ | refine qd4 ?_) | ((with_reducible apply tagR); first | refine qr2 ?_ | refine qr4 ?_)) | ((with_reducible apply tagW); first | refine qw1 ?_ | refine qw2 ?_ | refine qw3 ?_ | refine qw4 ?_ | refine qw5 ?_ | refine qw6 (fun hb => ?_) (fun hb => ?_) | refine qw7 ?_ | refine qw8 ?_ | refine qw9 ?_ | refine qw0 ?_) | refine thenQ_n ?_ | refine thenQ_e ?_ | refine thenQ_r ?_ | refine blockQ_n ?_ | refine blockQ_r ?_ | refine blockQ_hit ?_ | refine qb4 ?_ | refine qe ?_ | refine loopQ_e ?_ | refine loopQ_r ?_
        all_goals clear E
        refine W_loopQ (fun j : Nat => [(74, dInt j), (73, dInt p.length), (72, .d (.sl (patsD p))), (3, dInt (V + nodesL (p.take j) 200)), (68, dInt k), (67, dInt c.pats.length), (66, .d (.sl (patss c.pats)))]) (fun _ => []) (fun j => p.length - j) (fun j => j ≤ p.length) 0 (by omega) (by simp only [List.take_zero, nodesL, Int.add_zero]; exact qs) fun j hj => ?_
        by_cases hjl : j < p.length
        · obtain ⟨x, hx⟩ := get_ex hjl
          have hj1 : (j:Int) < p.length := by omega
          have m1 := nodesL_le (p.take j) 200
          have m2 := nodesL_succ 200 hx
          have m3 := psizes_take p j
          have m4 := nodes_le x 200
          have m5 := psizes_get hx
          have eY : V + nodesL (p.take (j + 1)) 200 = V + nodesL (p.take j) 200 + nodesOf x 200 := by rw [m2]; omega
          have E := And.intro @hj1 ((patsD_get hx))
          repeat' first | refine R_nil ?_ | ((with_reducible apply tagG); first | refine qg1 ?_ | refine qg2 ?_ | refine qg3 ?_ | refine qg4 ?_ | refine qg5 ?_ | refine qg6 (fun hb => ?_) (fun hb => ?_)) | ((with_reducible apply tagK); first | ((with_reducible apply tagD); first | refine qd5 (C21n (psize x) x 200 (by omega) (by omega) (by omega) (by omega)) ?_) | ((with_reducible apply tagR); first | refine qr5 (C21n (psize x) x 200 (by omega) (by omega) (by omega) (by omega)) ?_)) | ((with_reducible apply tagS); first | ((with_reducible apply tagD); first | refine qd1 ?_ | refine qd3 ?_) | ((with_reducible apply tagR); first | refine qr1 ?_ | refine qr3 ?_)) | ((with_reducible apply tagN); first | ((with_reducible apply tagD); first | refine qd2 ?_ | refine qd4 ?_) | ((with_reducible apply tagR); first | refine qr2 ?_ | refine qr4 ?_)) | ((with_reducible apply tagW); first | refine qw1 ?_ | refine qw2 ?_ | refine qw3 ?_ | refine qw4 ?_ | refine qw5 ?_ | refine qw6 (fun hb => ?_) (fun hb => ?_) | refine qw7 ?_ | refine qw8 ?_ | refine qw9 ?_ | refine qw0 ?_) | refine thenQ_n ?_ | refine thenQ_e ?_ | refine thenQ_r ?_ | refine blockQ_n ?_ | refine blockQ_r ?_ | refine blockQ_hit ?_ | refine qb4 ?_ | refine qe ?_ | refine loopQ_e ?_ | refine loopQ_r ?_
          all_goals clear E
          refine loopQ_n (j + 1) (by omega) (by omega) (by rw [eY]; exact qs)
        · have hj0 : ¬ (j:Int) < p.length := by omega
          have ej : j = p.length := by omega
          subst ej
          rw [List.take_length]
          have E := @hj0
          repeat' first | refine R_nil ?_ | ((with_reducible apply tagG); first | refine qg1 ?_ | refine qg2 ?_ | refine qg3 ?_ | refine qg4 ?_ | refine qg5 ?_ | refine qg6 (fun hb => ?_) (fun hb => ?_)) | ((with_reducible apply tagS); first | ((with_reducible apply tagD); first | refine qd1 ?_ | refine qd3 ?_) | ((with_reducible apply tagR); first | refine qr1 ?_ | refine qr3 ?_)) | ((with_reducible apply tagN); first | ((with_reducible apply tagD); first | refine qd2 ?_ | refine qd4 ?_) | ((with_reducible apply tagR); first | refine qr2 ?_ | refine qr4 ?_)) | ((with_reducible apply tagW); first | refine qw1 ?_ | refine qw2 ?_ | refine qw3 ?_ | refine qw4 ?_ | refine qw5 ?_ | refine qw6 (fun hb => ?_) (fun hb => ?_) | refine qw7 ?_ | refine qw8 ?_ | refine qw9 ?_ | refine qw0 ?_) | refine thenQ_n ?_ | refine thenQ_e ?_ | refine thenQ_r ?_ | refine blockQ_n ?_ | refine blockQ_r ?_ | refine blockQ_hit ?_ | refine qb4 ?_ | refine qe ?_ | refine loopQ_e ?_ | refine loopQ_r ?_
          all_goals clear E
          refine loopQ_n (k + 1) (by omega) (by omega) (by rw [eX]; exact qs)
      · have hk0 : ¬ (k:Int) < c.pats.length := by omega
        have ek : k = c.pats.length := by omega
        subst ek
        rw [List.take_length]
        have E := @hk0
        repeat' first | refine R_nil ?_ | ((with_reducible apply tagG); first | refine qg1 ?_ | refine qg2 ?_ | refine qg3 ?_ | refine qg4 ?_ | refine qg5 ?_ | refine qg6 (fun hb => ?_) (fun hb => ?_)) | ((with_reducible apply tagS); first | ((with_reducible apply tagD); first | refine qd1 ?_ | refine qd3 ?_) | ((with_reducible apply tagR); first | refine qr1 ?_ | refine qr3 ?_)) | ((with_reducible apply tagN); first | ((with_reducible apply tagD); first | refine qd2 ?_ | refine qd4 ?_) | ((with_reducible apply tagR); first | refine qr2 ?_ | refine qr4 ?_)) | ((with_reducible apply tagW); first | refine qw1 ?_ | refine qw2 ?_ | refine qw3 ?_ | refine qw4 ?_ | refine qw5 ?_ | refine qw6 (fun hb => ?_) (fun hb => ?_) | refine qw7 ?_ | refine qw8 ?_ | refine qw9 ?_ | refine qw0 ?_) | refine thenQ_n ?_ | refine thenQ_e ?_ | refine thenQ_r ?_ | refine blockQ_n ?_ | refine blockQ_r ?_ | refine blockQ_hit ?_ | refine qb4 ?_ | refine qe ?_ | refine loopQ_e ?_ | refine loopQ_r ?_
        all_goals clear E
        exact ret_d rfl rfl
end Go.Pw
