/- Functions of the reference: patterns packed. -/
import Derived.Test.YtppebcfhhoggiaaQF39
set_option linter.unusedVariables false
set_option linter.unusedSimpArgs false
namespace Go.Pw
open Go Go.Proofs
attribute [local irreducible] runL W endD thenQ blockQ loopQ
set_option maxRecDepth 8000
set_option maxHeartbeats 8000000
mutual
def patS : Pat → ByteArray
  | .mk k n t l => numsS [k, n] ++ textS t ++ patsS (numS l.length) l
def patsS (s : ByteArray) : List Pat → ByteArray
  | [] => s
  | p :: l => patsS (s ++ patS p) l
end
theorem patsS_eq : ∀ (l : List Pat) (s : ByteArray), patsS s l = l.foldl (fun s x => s ++ patS x) s
  | [], s => by rw [patsS]; rfl
  | p :: l, s => by rw [patsS, patsS_eq l]; rfl
theorem foldl_range {α : Type} (l : List α) (g : α → ByteArray) (e : Nat → ByteArray) (h : ∀ i x, l[i]? = some x → e i = g x) (s : ByteArray) : (List.range l.length).foldl (fun s i => s ++ e i) s = l.foldl (fun s x => s ++ g x) s := by
  have hm : (List.range l.length).map e = l.map g := by
    apply List.ext_getElem?
    intro i
    rw [List.getElem?_map, List.getElem?_map]
    by_cases hi : i < l.length
    · obtain ⟨x, hx⟩ := get_ex hi
      rw [hx, List.getElem?_range hi]
      simp [h i x hx]
    · rw [List.getElem?_eq_none (by simpa using hi), List.getElem?_eq_none (by omega)]
      rfl
  have h2 : ∀ (m : List ByteArray) (s : ByteArray), True := fun _ _ => trivial
  calc (List.range l.length).foldl (fun s i => s ++ e i) s = ((List.range l.length).map e).foldl (fun s y => s ++ y) s := by rw [List.foldl_map]
    _ = (l.map g).foldl (fun s y => s ++ y) s := by rw [hm]
    _ = _ := by rw [List.foldl_map]
theorem listS_eq {α : Type} (l : List α) (g : α → ByteArray) (e : Nat → ByteArray) (h : ∀ i x, l[i]? = some x → e i = g x) : listS l.length e = l.foldl (fun s x => s ++ g x) (numS l.length) := foldl_range l g e h _
def PatOk : Nat → Pat → Prop
  | 0, _ => False
  | n + 1, p => I64 p.kind ∧ I64 p.num ∧ p.text.size ≤ 1099511627776 ∧ (patS p).size ≤ 1152921504606846976 ∧ Sm p.args ∧ ∀ x ∈ p.args, PatOk n x
abbrev Pat.boxed (p : Pat) : Ob := .box [dInt p.kind, dInt p.num, dStr p.text, .d (.sl (patsD p.args))]
theorem C24p (g : Nat) (n : Nat) (p : Pat) (e : Nat → ByteArray) (hN : n ≤ 1099511627776) (hz : (listS n e).size ≤ 1152921504606846976)
    (hC : ∀ i : Nat, i < n → C Try.prog g [dInt i, .ptr 1000 0 0] [p.boxed] (dStr (e i)) [p.boxed] []) : C Try.prog 24 [dInt n, .fn g [(1000, 0, 0)]] [p.boxed] (dStr (listS n e)) [p.boxed] [] := by
  refine C_intro T_ok (rs := [.tmp 4]) Try.func24 rfl rfl rfl (Nat.le_of_ble_eq_true rfl) (Nat.le_of_ble_eq_true rfl) rfl ⟨rfl, rfl⟩ rfl fun cx hn => ?_
  have hn : cx.n = 20 := hn
  have Y := And.intro T3 (T9)
  simp only [enumA, enumO, Nat.reduceAdd]
  repeat' first | refine R_nil ?_ | ((with_reducible apply tagG); first | refine qg1 ?_ | refine qg2 ?_ | refine qg3 ?_ | refine qg4 ?_ | refine qg5 ?_ | refine qg6 (fun hb => ?_) (fun hb => ?_)) | ((with_reducible apply tagK); first | ((with_reducible apply tagD); first | refine qd5 (C27 n (by omega) (by omega)) ?_) | ((with_reducible apply tagR); first | refine qr5 (C27 n (by omega) (by omega)) ?_)) | ((with_reducible apply tagS); first | ((with_reducible apply tagD); first | refine qd1 ?_ | refine qd3 ?_) | ((with_reducible apply tagR); first | refine qr1 ?_ | refine qr3 ?_)) | ((with_reducible apply tagN); first | ((with_reducible apply tagD); first | refine qd2 ?_ | refine qd4 ?_) | ((with_reducible apply tagR); first | refine qr2 ?_ | refine qr4 ?_)) | ((with_reducible apply tagW); first | refine qw1 ?_ | refine qw2 ?_ | refine qw3 ?_ | refine qw4 ?_ | refine qw5 ?_ | refine qw6 (fun hb => ?_) (fun hb => ?_) | refine qw7 ?_ | refine qw8 ?_ | refine qw9 ?_ | refine qw0 ?_) | refine thenQ_n ?_ | refine thenQ_e ?_ | refine thenQ_r ?_ | refine blockQ_n ?_ | refine blockQ_r ?_ | refine blockQ_hit ?_ | refine qb4 ?_ | refine qe ?_ | refine loopQ_e ?_ | refine loopQ_r ?_
  refine W_loopQ (fun i : Nat => [(10, dInt i), (9, dInt n), (1, .fn g [(1000, 0, 0)]), (5, dStr ((List.range i).foldl (fun s i => s ++ e i) (numS n)))]) (fun _ => [(1000, some p.boxed)]) (fun i => n - i) (fun i => i ≤ n) 0 (by omega) qs fun i hi => ?_
  by_cases h : i < n
  · have h1 : (i:Int) < (n : Int) := by omega
    have e3 : (List.range (i + 1)).foldl (fun s i => s ++ e i) (numS n) = (List.range i).foldl (fun s i => s ++ e i) (numS n) ++ e i := by
      rw [List.range_succ, List.foldl_append]; rfl
    have z1 := foldl_mono e (numS n) (show i + 1 ≤ n by omega)
    have z2 : (listS n e).size ≤ 1152921504606846976 := hz
    rw [e3, app_size] at z1
    unfold listS at z2
    generalize (List.range n).foldl (fun s i => s ++ e i) (numS n) = Z at *
    generalize (List.range i).foldl (fun s i => s ++ e i) (numS n) = A at *
    have hce := hC i h
    have E := @h1
    repeat' first | refine R_nil ?_ | ((with_reducible apply tagG); first | refine qg1 ?_ | refine qg2 ?_ | refine qg3 ?_ | refine qg4 ?_ | refine qg5 ?_ | refine qg6 (fun hb => ?_) (fun hb => ?_)) | ((with_reducible apply tagK); first | ((with_reducible apply tagD); first | refine qd7 [1000] (hce) ?_ | refine qd6 [1000] (hce) ?_) | ((with_reducible apply tagR); first | refine qr7 [1000] (hce) ?_ | refine qr6 [1000] (hce) ?_)) | ((with_reducible apply tagS); first | ((with_reducible apply tagD); first | refine qd1 ?_ | refine qd3 ?_) | ((with_reducible apply tagR); first | refine qr1 ?_ | refine qr3 ?_)) | ((with_reducible apply tagN); first | ((with_reducible apply tagD); first | refine qd2 ?_ | refine qd4 ?_) | ((with_reducible apply tagR); first | refine qr2 ?_ | refine qr4 ?_)) | ((with_reducible apply tagW); first | refine qw1 ?_ | refine qw2 ?_ | refine qw3 ?_ | refine qw4 ?_ | refine qw5 ?_ | refine qw6 (fun hb => ?_) (fun hb => ?_) | refine qw7 ?_ | refine qw8 ?_ | refine qw9 ?_ | refine qw0 ?_) | refine thenQ_n ?_ | refine thenQ_e ?_ | refine thenQ_r ?_ | refine blockQ_n ?_ | refine blockQ_r ?_ | refine blockQ_hit ?_ | refine qb4 ?_ | refine qe ?_ | refine loopQ_e ?_ | refine loopQ_r ?_
    all_goals clear E
    refine loopQ_n (i + 1) (by omega) (by omega) (by rw [e3]; exact qs)
  · have h1 : ¬ (i:Int) < (n : Int) := by omega
    have ei : i = n := by omega
    subst ei
    have E := @h1
    repeat' first | refine R_nil ?_ | ((with_reducible apply tagG); first | refine qg1 ?_ | refine qg2 ?_ | refine qg3 ?_ | refine qg4 ?_ | refine qg5 ?_ | refine qg6 (fun hb => ?_) (fun hb => ?_)) | ((with_reducible apply tagS); first | ((with_reducible apply tagD); first | refine qd1 ?_ | refine qd3 ?_) | ((with_reducible apply tagR); first | refine qr1 ?_ | refine qr3 ?_)) | ((with_reducible apply tagN); first | ((with_reducible apply tagD); first | refine qd2 ?_ | refine qd4 ?_) | ((with_reducible apply tagR); first | refine qr2 ?_ | refine qr4 ?_)) | ((with_reducible apply tagW); first | refine qw1 ?_ | refine qw2 ?_ | refine qw3 ?_ | refine qw4 ?_ | refine qw5 ?_ | refine qw6 (fun hb => ?_) (fun hb => ?_) | refine qw7 ?_ | refine qw8 ?_ | refine qw9 ?_ | refine qw0 ?_) | refine thenQ_n ?_ | refine thenQ_e ?_ | refine thenQ_r ?_ | refine blockQ_n ?_ | refine blockQ_r ?_ | refine blockQ_hit ?_ | refine qb4 ?_ | refine qe ?_ | refine loopQ_e ?_ | refine loopQ_r ?_
    all_goals clear E
    exact ret_dM rfl rfl rfl rfl
theorem C53 (p : Pat) (j : Nat) (x : Pat) (hx : p.args[j]? = some x) (hC : C Try.prog 36 [x.av] [] (dStr (patS x)) [] []) : C Try.prog 53 [dInt j, .ptr 1000 0 0] [p.boxed] (dStr (patS x)) [p.boxed] [] := by
  have h1 := get_lt hx
  refine C_intro T_ok (rs := [.tmp 3]) Try.func53 rfl rfl rfl (Nat.le_of_ble_eq_true rfl) (Nat.le_of_ble_eq_true rfl) rfl ⟨rfl, rfl⟩ rfl fun cx hn => ?_
  have hn : cx.n = 10 := hn
  have Y := And.intro T3 (And.intro T9 (And.intro T61 (T63)))
  simp only [enumA, enumO, Nat.reduceAdd]
  have E := And.intro @h1 ((patsD_get hx))
  repeat' first | refine R_nil ?_ | ((with_reducible apply tagG); first | refine qg1 ?_ | refine qg2 ?_ | refine qg3 ?_ | refine qg4 ?_ | refine qg5 ?_ | refine qg6 (fun hb => ?_) (fun hb => ?_)) | ((with_reducible apply tagK); first | ((with_reducible apply tagD); first | refine qd5 (hC) ?_) | ((with_reducible apply tagR); first | refine qr5 (hC) ?_)) | ((with_reducible apply tagS); first | ((with_reducible apply tagD); first | refine qd1 ?_ | refine qd3 ?_) | ((with_reducible apply tagR); first | refine qr1 ?_ | refine qr3 ?_)) | ((with_reducible apply tagN); first | ((with_reducible apply tagD); first | refine qd2 ?_ | refine qd4 ?_) | ((with_reducible apply tagR); first | refine qr2 ?_ | refine qr4 ?_)) | ((with_reducible apply tagW); first | refine qw1 ?_ | refine qw2 ?_ | refine qw3 ?_ | refine qw4 ?_ | refine qw5 ?_ | refine qw6 (fun hb => ?_) (fun hb => ?_) | refine qw7 ?_ | refine qw8 ?_ | refine qw9 ?_ | refine qw0 ?_) | refine thenQ_n ?_ | refine thenQ_e ?_ | refine thenQ_r ?_ | refine blockQ_n ?_ | refine blockQ_r ?_ | refine blockQ_hit ?_ | refine qb4 ?_ | refine qe ?_ | refine loopQ_e ?_ | refine loopQ_r ?_
  all_goals clear E
  exact ret_dM rfl rfl rfl rfl
theorem patS_p (p : Pat) : patS p = numsS [p.kind, p.num] ++ textS p.text ++ patsS (numS p.args.length) p.args := by cases p; rw [patS]; rfl
theorem C36n : ∀ (n : Nat) (p : Pat), PatOk n p → C Try.prog 36 [p.av] [] (dStr (patS p)) [] []
  | 0, p, h => h.elim
  | n + 1, p, ⟨hk, hm, ht, hz, hl, ha⟩ => by
    have z0 := numsS_size [p.kind, p.num]
    have z1 := textS_size p.text
    have z2 := app_size (numsS [p.kind, p.num]) (textS p.text)
    have e1 : listS p.args.length (fun j => patS (p.args.getD j (.mk 0 0 ByteArray.empty []))) = patsS (numS p.args.length) p.args := by
      rw [patsS_eq]
      exact listS_eq p.args patS _ fun i x hx => by rw [List.getD_eq_getElem?_getD, hx]; rfl
    have e := patS_p p
    rw [← e1] at e
    have zz := hz
    rw [e, app_size] at zz
    have hall : ∀ n ∈ ([p.kind, p.num] : List Int), I64 n := by
      intro n hn
      simp only [List.mem_cons, List.not_mem_nil, or_false] at hn
      rcases hn with rfl | rfl <;> assumption
    have hC28 := C28 true _ (by simp [Sm]) hall
    simp only [slA_t, ints, List.map_cons, List.map_nil] at hC28
    have hC24 := C24p 53 p.args.length p (fun j => patS (p.args.getD j (.mk 0 0 ByteArray.empty []))) hl (by omega) fun j hj => by
      obtain ⟨x, hx⟩ := get_ex hj
      rw [show p.args.getD j (.mk 0 0 ByteArray.empty []) = x by rw [List.getD_eq_getElem?_getD, hx]; rfl]
      exact C53 p j x hx (C36n n x (ha x (List.mem_of_getElem? hx)))
    rw [e]
    generalize listS p.args.length (fun j => patS (p.args.getD j (.mk 0 0 ByteArray.empty []))) = Z at *
    simp only [List.length_cons, List.length_nil] at *
    refine C_intro T_ok (rs := [.tmp 2]) Try.func36 rfl rfl rfl (Nat.le_of_ble_eq_true rfl) (Nat.le_of_ble_eq_true rfl) rfl ⟨rfl, rfl⟩ rfl fun cx hn => ?_
    have hn : cx.n = 19 := hn
    have Y := And.intro T3 (And.intro T9 (And.intro T23 (And.intro T61 (And.intro T63 (T72)))))
    simp only [enumA, enumO, Nat.reduceAdd]
    repeat' first | refine R_nil ?_ | ((with_reducible apply tagG); first | refine qg1 ?_ | refine qg2 ?_ | refine qg3 ?_ | refine qg4 ?_ | refine qg5 ?_ | refine qg6 (fun hb => ?_) (fun hb => ?_)) | ((with_reducible apply tagK); first | ((with_reducible apply tagD); first | refine qd6 [] (hC28) ?_ | refine qd5 (C26 p.text ht) ?_ | refine qd7 [1] (hC24) ?_ | refine qd6 [1] (hC24) ?_) | ((with_reducible apply tagR); first | refine qr6 [] (hC28) ?_ | refine qr5 (C26 p.text ht) ?_ | refine qr7 [1] (hC24) ?_ | refine qr6 [1] (hC24) ?_)) | ((with_reducible apply tagS); first | ((with_reducible apply tagD); first | refine qd1 ?_ | refine qd3 ?_) | ((with_reducible apply tagR); first | refine qr1 ?_ | refine qr3 ?_)) | ((with_reducible apply tagN); first | ((with_reducible apply tagD); first | refine qd2 ?_ | refine qd4 ?_) | ((with_reducible apply tagR); first | refine qr2 ?_ | refine qr4 ?_)) | ((with_reducible apply tagW); first | refine qw1 ?_ | refine qw2 ?_ | refine qw3 ?_ | refine qw4 ?_ | refine qw5 ?_ | refine qw6 (fun hb => ?_) (fun hb => ?_) | refine qw7 ?_ | refine qw8 ?_ | refine qw9 ?_ | refine qw0 ?_) | refine thenQ_n ?_ | refine thenQ_e ?_ | refine thenQ_r ?_ | refine blockQ_n ?_ | refine blockQ_r ?_ | refine blockQ_hit ?_ | refine qb4 ?_ | refine qe ?_ | refine loopQ_e ?_ | refine loopQ_r ?_
    exact ret_d rfl rfl
abbrev pat0 : Pat := .mk 0 0 ByteArray.empty []
def patsA (l : List Pat) : ByteArray := listS l.length fun j => patS (l.getD j pat0)
theorem C35 (c : Cod) (k : Nat) (l : List Pat) (j : Nat) (x : Pat) (n : Nat) (hl : c.pats[k]? = some l) (hx : l[j]? = some x) (hp : PatOk n x) : C Try.prog 35 [dInt j, .ptr 1000 0 0, .ptr 1001 0 0] [.box c.cells, .box [dInt k]] (dStr (patS x)) [.box c.cells, .box [dInt k]] [] := by
  have h1 := get_lt hx
  have h2 := get_lt hl
  refine C_intro T_ok (rs := [.tmp 4]) Try.func35 rfl rfl rfl (Nat.le_of_ble_eq_true rfl) (Nat.le_of_ble_eq_true rfl) rfl ⟨rfl, rfl⟩ rfl fun cx hn => ?_
  have hn : cx.n = 14 := hn
  have Y := And.intro T3 (And.intro T4 (And.intro T9 (And.intro T22 (And.intro T23 (And.intro T24 (And.intro T25 (And.intro T26 (And.intro T27 (And.intro T28 (And.intro T30 (And.intro T38 (And.intro T40 (And.intro T60 (And.intro T61 (And.intro T63 (And.intro T67 (And.intro T75 (T77))))))))))))))))))
  simp only [enumA, enumO, Nat.reduceAdd]
  have E := And.intro @h1 (And.intro @h2 (And.intro (patsD_get hx) ((patss_get hl))))
  repeat' first | refine R_nil ?_ | ((with_reducible apply tagG); first | refine qg1 ?_ | refine qg2 ?_ | refine qg3 ?_ | refine qg4 ?_ | refine qg5 ?_ | refine qg6 (fun hb => ?_) (fun hb => ?_)) | ((with_reducible apply tagK); first | ((with_reducible apply tagD); first | refine qd5 (C36n n x hp) ?_) | ((with_reducible apply tagR); first | refine qr5 (C36n n x hp) ?_)) | ((with_reducible apply tagS); first | ((with_reducible apply tagD); first | refine qd1 ?_ | refine qd3 ?_) | ((with_reducible apply tagR); first | refine qr1 ?_ | refine qr3 ?_)) | ((with_reducible apply tagN); first | ((with_reducible apply tagD); first | refine qd2 ?_ | refine qd4 ?_) | ((with_reducible apply tagR); first | refine qr2 ?_ | refine qr4 ?_)) | ((with_reducible apply tagW); first | refine qw1 ?_ | refine qw2 ?_ | refine qw3 ?_ | refine qw4 ?_ | refine qw5 ?_ | refine qw6 (fun hb => ?_) (fun hb => ?_) | refine qw7 ?_ | refine qw8 ?_ | refine qw9 ?_ | refine qw0 ?_) | refine thenQ_n ?_ | refine thenQ_e ?_ | refine thenQ_r ?_ | refine blockQ_n ?_ | refine blockQ_r ?_ | refine blockQ_hit ?_ | refine qb4 ?_ | refine qe ?_ | refine loopQ_e ?_ | refine loopQ_r ?_
  all_goals clear E
  exact ret_dM rfl rfl rfl rfl
theorem C34 (c : Cod) (k : Nat) (l : List Pat) (n : Nat) (hl : c.pats[k]? = some l) (hs : Sm l) (hz : (patsA l).size ≤ 1152921504606846976) (hp : ∀ x ∈ l, PatOk n x) : C Try.prog 34 [dInt k, .ptr 1000 0 0] [.box c.cells] (dStr (patsA l)) [.box c.cells] [] := by
  have h2 := get_lt hl
  have hC24 := C24i 35 l.length c k (fun j => patS (l.getD j pat0)) hs hz fun j hj => by
    obtain ⟨x, hx⟩ := get_ex hj
    rw [show l.getD j pat0 = x by rw [List.getD_eq_getElem?_getD, hx]; rfl]
    exact C35 c k l j x n hl hx (hp x (List.mem_of_getElem? hx))
  change C Try.prog 24 _ _ (dStr (patsA l)) _ _ at hC24
  generalize patsA l = Z at *
  refine C_intro T_ok (rs := [.tmp 3]) Try.func34 rfl rfl rfl (Nat.le_of_ble_eq_true rfl) (Nat.le_of_ble_eq_true rfl) rfl ⟨rfl, rfl⟩ rfl fun cx hn => ?_
  have hn : cx.n = 12 := hn
  have Y := And.intro T3 (And.intro T4 (And.intro T9 (And.intro T22 (And.intro T23 (And.intro T24 (And.intro T25 (And.intro T26 (And.intro T27 (And.intro T28 (And.intro T30 (And.intro T38 (And.intro T40 (And.intro T60 (And.intro T61 (And.intro T63 (And.intro T67 (And.intro T72 (And.intro T75 (T77)))))))))))))))))))
  simp only [enumA, enumO, Nat.reduceAdd]
  have E := And.intro @h2 ((patss_get hl))
  repeat' first | refine R_nil ?_ | ((with_reducible apply tagG); first | refine qg1 ?_ | refine qg2 ?_ | refine qg3 ?_ | refine qg4 ?_ | refine qg5 ?_ | refine qg6 (fun hb => ?_) (fun hb => ?_)) | ((with_reducible apply tagK); first | ((with_reducible apply tagD); first | refine qd7 [1000, 2] (hC24) ?_ | refine qd6 [1000, 2] (hC24) ?_) | ((with_reducible apply tagR); first | refine qr7 [1000, 2] (hC24) ?_ | refine qr6 [1000, 2] (hC24) ?_)) | ((with_reducible apply tagS); first | ((with_reducible apply tagD); first | refine qd1 ?_ | refine qd3 ?_) | ((with_reducible apply tagR); first | refine qr1 ?_ | refine qr3 ?_)) | ((with_reducible apply tagN); first | ((with_reducible apply tagD); first | refine qd2 ?_ | refine qd4 ?_) | ((with_reducible apply tagR); first | refine qr2 ?_ | refine qr4 ?_)) | ((with_reducible apply tagW); first | refine qw1 ?_ | refine qw2 ?_ | refine qw3 ?_ | refine qw4 ?_ | refine qw5 ?_ | refine qw6 (fun hb => ?_) (fun hb => ?_) | refine qw7 ?_ | refine qw8 ?_ | refine qw9 ?_ | refine qw0 ?_) | refine thenQ_n ?_ | refine thenQ_e ?_ | refine thenQ_r ?_ | refine blockQ_n ?_ | refine blockQ_r ?_ | refine blockQ_hit ?_ | refine qb4 ?_ | refine qe ?_ | refine loopQ_e ?_ | refine loopQ_r ?_
  all_goals clear E
  exact ret_dM rfl rfl rfl rfl
end Go.Pw
