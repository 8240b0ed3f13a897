/- Functions of the reference: packing. -/
import Derived.Test.YtppebcfhhoggiaaQF36
import Derived.Test.YtppebcfhhoggiaaQF7
set_option linter.unusedVariables false
set_option linter.unusedSimpArgs false
namespace Go.Pw
open Go Go.Proofs
attribute [local irreducible] runL W endD thenQ blockQ loopQ
set_option maxRecDepth 8000
set_option maxHeartbeats 8000000
def numsS (l : List Int) : ByteArray := l.foldl (fun s n => s ++ numS n) ByteArray.empty
def textS (s : ByteArray) : ByteArray := numS s.size ++ s
def listS (n : Nat) (e : Nat → ByteArray) : ByteArray := (List.range n).foldl (fun s i => s ++ e i) (numS n)
theorem foldl_size {α : Type} (f : α → ByteArray) (B : Nat) : ∀ (l : List α) (s : ByteArray), (∀ x ∈ l, (f x).size ≤ B) → (l.foldl (fun s n => s ++ f n) s).size ≤ s.size + l.length * B
  | [], s, _ => by simp
  | x :: l, s, h => by
    have := foldl_size f B l (s ++ f x) (fun y hy => h y (List.mem_cons_of_mem _ hy))
    have h1 := h x (by simp)
    rw [app_size] at this
    rw [List.foldl_cons, List.length_cons, Nat.add_mul]; omega
theorem numsS_size (l : List Int) : (numsS l).size ≤ l.length * 10 := by
  have := foldl_size numS 10 l ByteArray.empty (fun n _ => numS_size n)
  simpa [numsS] using this
theorem listS_size (n : Nat) (e : Nat → ByteArray) (B : Nat) (h : ∀ i < n, (e i).size ≤ B) : (listS n e).size ≤ 10 + n * B := by
  have := foldl_size e B (List.range n) (numS n) (fun i hi => h i (List.mem_range.1 hi))
  have h2 := numS_size n
  rw [List.length_range] at this
  unfold listS; omega
theorem C28 (b : Bool) (l : List Int) (hl : Sm l) (hi : ∀ n ∈ l, I64 n) : C Try.prog 28 [slA b (ints l)] [] (dStr (numsS l)) [] [] := by
  rcases bool2 b with hbb | hbb
  all_goals
    refine C_intro T_ok (rs := [.tmp 2]) Try.func28 rfl rfl rfl (Nat.le_of_ble_eq_true rfl) (Nat.le_of_ble_eq_true rfl) rfl ⟨rfl, rfl⟩ rfl fun cx hn => ?_
    have hn : cx.n = 18 := hn
    have Y := And.intro T3 (And.intro T9 (T23))
    simp only [enumA, enumO, Nat.reduceAdd]
    have E := @hbb
    repeat' first | refine R_nil ?_ | ((with_reducible apply tagG); first | refine qg1 ?_ | refine qg2 ?_ | refine qg3 ?_ | refine qg4 ?_ | refine qg5 ?_ | refine qg6 (fun hb => ?_) (fun hb => ?_)) | ((with_reducible apply tagS); first | ((with_reducible apply tagD); first | refine qd1 ?_ | refine qd3 ?_) | ((with_reducible apply tagR); first | refine qr1 ?_ | refine qr3 ?_)) | ((with_reducible apply tagN); first | ((with_reducible apply tagD); first | refine qd2 ?_ | refine qd4 ?_) | ((with_reducible apply tagR); first | refine qr2 ?_ | refine qr4 ?_)) | ((with_reducible apply tagW); first | refine qw1 ?_ | refine qw2 ?_ | refine qw3 ?_ | refine qw4 ?_ | refine qw5 ?_ | refine qw6 (fun hb => ?_) (fun hb => ?_) | refine qw7 ?_ | refine qw8 ?_ | refine qw9 ?_ | refine qw0 ?_) | refine thenQ_n ?_ | refine thenQ_e ?_ | refine thenQ_r ?_ | refine blockQ_n ?_ | refine blockQ_r ?_ | refine blockQ_hit ?_ | refine qb4 ?_ | refine qe ?_ | refine loopQ_e ?_ | refine loopQ_r ?_
    all_goals clear E
    refine W_loopQ (fun i : Nat => [(8, dInt i), (7, dInt l.length), (6, slA b (ints l)), (3, dStr (numsS (l.take i)))]) (fun _ => []) (fun i => l.length - i) (fun i => i ≤ l.length) 0 (by omega) (by have E := @hbb; exact qs) fun i hk => ?_
    by_cases h : i < l.length
    · obtain ⟨x, hx⟩ := get_ex h
      have h1 : (i:Int) < l.length := by omega
      have e3 : numsS (l.take (i + 1)) = numsS (l.take i) ++ numS x := by
        unfold numsS; rw [List.take_add_one, hx, List.foldl_append]; rfl
      have z1 := numsS_size (l.take i)
      have z2 := numS_size x
      have z3 : (l.take i).length ≤ 1099511627776 := by rw [List.length_take]; omega
      generalize numsS (l.take i) = A at *
      have hxi := hi x (List.mem_of_getElem? hx)
      have E := And.intro @h1 (And.intro (ints_get hx) (@hbb))
      repeat' first | refine R_nil ?_ | ((with_reducible apply tagG); first | refine qg1 ?_ | refine qg2 ?_ | refine qg3 ?_ | refine qg4 ?_ | refine qg5 ?_ | refine qg6 (fun hb => ?_) (fun hb => ?_)) | ((with_reducible apply tagK); first | ((with_reducible apply tagD); first | refine qd5 (C27 x hxi.1 hxi.2) ?_) | ((with_reducible apply tagR); first | refine qr5 (C27 x hxi.1 hxi.2) ?_)) | ((with_reducible apply tagS); first | ((with_reducible apply tagD); first | refine qd1 ?_ | refine qd3 ?_) | ((with_reducible apply tagR); first | refine qr1 ?_ | refine qr3 ?_)) | ((with_reducible apply tagN); first | ((with_reducible apply tagD); first | refine qd2 ?_ | refine qd4 ?_) | ((with_reducible apply tagR); first | refine qr2 ?_ | refine qr4 ?_)) | ((with_reducible apply tagW); first | refine qw1 ?_ | refine qw2 ?_ | refine qw3 ?_ | refine qw4 ?_ | refine qw5 ?_ | refine qw6 (fun hb => ?_) (fun hb => ?_) | refine qw7 ?_ | refine qw8 ?_ | refine qw9 ?_ | refine qw0 ?_) | refine thenQ_n ?_ | refine thenQ_e ?_ | refine thenQ_r ?_ | refine blockQ_n ?_ | refine blockQ_r ?_ | refine blockQ_hit ?_ | refine qb4 ?_ | refine qe ?_ | refine loopQ_e ?_ | refine loopQ_r ?_
      all_goals clear E
      refine loopQ_n (i + 1) (by omega) (by omega) (by rw [e3]; have E := @hbb; exact qs)
    · have h1 : ¬ (i:Int) < l.length := by omega
      have E := And.intro @h1 (@hbb)
      repeat' first | refine R_nil ?_ | ((with_reducible apply tagG); first | refine qg1 ?_ | refine qg2 ?_ | refine qg3 ?_ | refine qg4 ?_ | refine qg5 ?_ | refine qg6 (fun hb => ?_) (fun hb => ?_)) | ((with_reducible apply tagS); first | ((with_reducible apply tagD); first | refine qd1 ?_ | refine qd3 ?_) | ((with_reducible apply tagR); first | refine qr1 ?_ | refine qr3 ?_)) | ((with_reducible apply tagN); first | ((with_reducible apply tagD); first | refine qd2 ?_ | refine qd4 ?_) | ((with_reducible apply tagR); first | refine qr2 ?_ | refine qr4 ?_)) | ((with_reducible apply tagW); first | refine qw1 ?_ | refine qw2 ?_ | refine qw3 ?_ | refine qw4 ?_ | refine qw5 ?_ | refine qw6 (fun hb => ?_) (fun hb => ?_) | refine qw7 ?_ | refine qw8 ?_ | refine qw9 ?_ | refine qw0 ?_) | refine thenQ_n ?_ | refine thenQ_e ?_ | refine thenQ_r ?_ | refine blockQ_n ?_ | refine blockQ_r ?_ | refine blockQ_hit ?_ | refine qb4 ?_ | refine qe ?_ | refine loopQ_e ?_ | refine loopQ_r ?_
      all_goals clear E
      refine ret_d rfl ?_
      rw [List.take_of_length_le (by omega)]
theorem C26 (s : ByteArray) (hs : s.size ≤ 1099511627776) : C Try.prog 26 [dStr s] [] (dStr (textS s)) [] [] := by
  have z := numS_size s.size
  refine C_intro T_ok (rs := [.tmp 2]) Try.func26 rfl rfl rfl (Nat.le_of_ble_eq_true rfl) (Nat.le_of_ble_eq_true rfl) rfl ⟨rfl, rfl⟩ rfl fun cx hn => ?_
  have hn : cx.n = 8 := hn
  have Y := And.intro T3 (T9)
  simp only [enumA, enumO, Nat.reduceAdd]
  repeat' first | refine R_nil ?_ | ((with_reducible apply tagG); first | refine qg1 ?_ | refine qg2 ?_ | refine qg3 ?_ | refine qg4 ?_ | refine qg5 ?_ | refine qg6 (fun hb => ?_) (fun hb => ?_)) | ((with_reducible apply tagK); first | ((with_reducible apply tagD); first | refine qd5 (C27 s.size (by omega) (by omega)) ?_) | ((with_reducible apply tagR); first | refine qr5 (C27 s.size (by omega) (by omega)) ?_)) | ((with_reducible apply tagS); first | ((with_reducible apply tagD); first | refine qd1 ?_ | refine qd3 ?_) | ((with_reducible apply tagR); first | refine qr1 ?_ | refine qr3 ?_)) | ((with_reducible apply tagN); first | ((with_reducible apply tagD); first | refine qd2 ?_ | refine qd4 ?_) | ((with_reducible apply tagR); first | refine qr2 ?_ | refine qr4 ?_)) | ((with_reducible apply tagW); first | refine qw1 ?_ | refine qw2 ?_ | refine qw3 ?_ | refine qw4 ?_ | refine qw5 ?_ | refine qw6 (fun hb => ?_) (fun hb => ?_) | refine qw7 ?_ | refine qw8 ?_ | refine qw9 ?_ | refine qw0 ?_) | refine thenQ_n ?_ | refine thenQ_e ?_ | refine thenQ_r ?_ | refine blockQ_n ?_ | refine blockQ_r ?_ | refine blockQ_hit ?_ | refine qb4 ?_ | refine qe ?_ | refine loopQ_e ?_ | refine loopQ_r ?_
  exact ret_d rfl rfl
theorem textS_size (s : ByteArray) : (textS s).size ≤ s.size + 10 := by
  have := numS_size s.size
  unfold textS; rw [app_size]; omega
theorem foldl_mono (e : Nat → ByteArray) (s : ByteArray) {i : Nat} : ∀ {n : Nat}, i ≤ n → ((List.range i).foldl (fun s i => s ++ e i) s).size ≤ ((List.range n).foldl (fun s i => s ++ e i) s).size
  | 0, h => by have : i = 0 := by omega
               subst this; exact Nat.le_refl _
  | n + 1, h => by
    by_cases hi : i = n + 1
    · subst hi; exact Nat.le_refl _
    · have := foldl_mono e s (show i ≤ n by omega)
      rw [List.range_succ, List.foldl_append]
      show _ ≤ (_ ++ e n).size
      rw [app_size]; omega
theorem C24c (g : Nat) (n : Nat) (c : Cod) (e : Nat → ByteArray) (hN : n ≤ 1099511627776) (hz : (listS n e).size ≤ 1152921504606846976)
    (hC : ∀ i : Nat, i < n → C Try.prog g [dInt i, .ptr 1000 0 0] [.box c.cells] (dStr (e i)) [.box c.cells] []) : C Try.prog 24 [dInt n, .fn g [(1000, 0, 0)]] [.box c.cells] (dStr (listS n e)) [.box c.cells] [] := by
  refine C_intro T_ok (rs := [.tmp 4]) Try.func24 rfl rfl rfl (Nat.le_of_ble_eq_true rfl) (Nat.le_of_ble_eq_true rfl) rfl ⟨rfl, rfl⟩ rfl fun cx hn => ?_
  have hn : cx.n = 20 := hn
  have Y := And.intro T3 (T9)
  simp only [enumA, enumO, Nat.reduceAdd]
  repeat' first | refine R_nil ?_ | ((with_reducible apply tagG); first | refine qg1 ?_ | refine qg2 ?_ | refine qg3 ?_ | refine qg4 ?_ | refine qg5 ?_ | refine qg6 (fun hb => ?_) (fun hb => ?_)) | ((with_reducible apply tagK); first | ((with_reducible apply tagD); first | refine qd5 (C27 n (by omega) (by omega)) ?_) | ((with_reducible apply tagR); first | refine qr5 (C27 n (by omega) (by omega)) ?_)) | ((with_reducible apply tagS); first | ((with_reducible apply tagD); first | refine qd1 ?_ | refine qd3 ?_) | ((with_reducible apply tagR); first | refine qr1 ?_ | refine qr3 ?_)) | ((with_reducible apply tagN); first | ((with_reducible apply tagD); first | refine qd2 ?_ | refine qd4 ?_) | ((with_reducible apply tagR); first | refine qr2 ?_ | refine qr4 ?_)) | ((with_reducible apply tagW); first | refine qw1 ?_ | refine qw2 ?_ | refine qw3 ?_ | refine qw4 ?_ | refine qw5 ?_ | refine qw6 (fun hb => ?_) (fun hb => ?_) | refine qw7 ?_ | refine qw8 ?_ | refine qw9 ?_ | refine qw0 ?_) | refine thenQ_n ?_ | refine thenQ_e ?_ | refine thenQ_r ?_ | refine blockQ_n ?_ | refine blockQ_r ?_ | refine blockQ_hit ?_ | refine qb4 ?_ | refine qe ?_ | refine loopQ_e ?_ | refine loopQ_r ?_
  refine W_loopQ (fun i : Nat => [(10, dInt i), (9, dInt n), (1, .fn g [(1000, 0, 0)]), (5, dStr ((List.range i).foldl (fun s i => s ++ e i) (numS n)))]) (fun _ => [(1000, some (.box c.cells))]) (fun i => n - i) (fun i => i ≤ n) 0 (by omega) qs fun i hi => ?_
  by_cases h : i < n
  · have h1 : (i:Int) < (n : Int) := by omega
    have e3 : (List.range (i + 1)).foldl (fun s i => s ++ e i) (numS n) = (List.range i).foldl (fun s i => s ++ e i) (numS n) ++ e i := by
      rw [List.range_succ, List.foldl_append]; rfl
    have z1 := foldl_mono e (numS n) (show i + 1 ≤ n by omega)
    have z2 : (listS n e).size ≤ 1152921504606846976 := hz
    rw [e3, app_size] at z1
    unfold listS at z2
    generalize (List.range n).foldl (fun s i => s ++ e i) (numS n) = Z at *
    generalize (List.range i).foldl (fun s i => s ++ e i) (numS n) = A at *
    have hce := hC i h
    have E := @h1
    repeat' first | refine R_nil ?_ | ((with_reducible apply tagG); first | refine qg1 ?_ | refine qg2 ?_ | refine qg3 ?_ | refine qg4 ?_ | refine qg5 ?_ | refine qg6 (fun hb => ?_) (fun hb => ?_)) | ((with_reducible apply tagK); first | ((with_reducible apply tagD); first | refine qd7 [1000] (hce) ?_ | refine qd6 [1000] (hce) ?_) | ((with_reducible apply tagR); first | refine qr7 [1000] (hce) ?_ | refine qr6 [1000] (hce) ?_)) | ((with_reducible apply tagS); first | ((with_reducible apply tagD); first | refine qd1 ?_ | refine qd3 ?_) | ((with_reducible apply tagR); first | refine qr1 ?_ | refine qr3 ?_)) | ((with_reducible apply tagN); first | ((with_reducible apply tagD); first | refine qd2 ?_ | refine qd4 ?_) | ((with_reducible apply tagR); first | refine qr2 ?_ | refine qr4 ?_)) | ((with_reducible apply tagW); first | refine qw1 ?_ | refine qw2 ?_ | refine qw3 ?_ | refine qw4 ?_ | refine qw5 ?_ | refine qw6 (fun hb => ?_) (fun hb => ?_) | refine qw7 ?_ | refine qw8 ?_ | refine qw9 ?_ | refine qw0 ?_) | refine thenQ_n ?_ | refine thenQ_e ?_ | refine thenQ_r ?_ | refine blockQ_n ?_ | refine blockQ_r ?_ | refine blockQ_hit ?_ | refine qb4 ?_ | refine qe ?_ | refine loopQ_e ?_ | refine loopQ_r ?_
    all_goals clear E
    refine loopQ_n (i + 1) (by omega) (by omega) (by rw [e3]; exact qs)
  · have h1 : ¬ (i:Int) < (n : Int) := by omega
    have ei : i = n := by omega
    subst ei
    have E := @h1
    repeat' first | refine R_nil ?_ | ((with_reducible apply tagG); first | refine qg1 ?_ | refine qg2 ?_ | refine qg3 ?_ | refine qg4 ?_ | refine qg5 ?_ | refine qg6 (fun hb => ?_) (fun hb => ?_)) | ((with_reducible apply tagS); first | ((with_reducible apply tagD); first | refine qd1 ?_ | refine qd3 ?_) | ((with_reducible apply tagR); first | refine qr1 ?_ | refine qr3 ?_)) | ((with_reducible apply tagN); first | ((with_reducible apply tagD); first | refine qd2 ?_ | refine qd4 ?_) | ((with_reducible apply tagR); first | refine qr2 ?_ | refine qr4 ?_)) | ((with_reducible apply tagW); first | refine qw1 ?_ | refine qw2 ?_ | refine qw3 ?_ | refine qw4 ?_ | refine qw5 ?_ | refine qw6 (fun hb => ?_) (fun hb => ?_) | refine qw7 ?_ | refine qw8 ?_ | refine qw9 ?_ | refine qw0 ?_) | refine thenQ_n ?_ | refine thenQ_e ?_ | refine thenQ_r ?_ | refine blockQ_n ?_ | refine blockQ_r ?_ | refine blockQ_hit ?_ | refine qb4 ?_ | refine qe ?_ | refine loopQ_e ?_ | refine loopQ_r ?_
    all_goals clear E
    exact ret_dM rfl rfl rfl rfl
theorem C24f (g : Nat) (n : Nat) (c : Fn) (e : Nat → ByteArray) (hN : n ≤ 1099511627776) (hz : (listS n e).size ≤ 1152921504606846976)
    (hC : ∀ i : Nat, i < n → C Try.prog g [dInt i, .ptr 1000 0 0] [.box c.cells] (dStr (e i)) [.box c.cells] []) : C Try.prog 24 [dInt n, .fn g [(1000, 0, 0)]] [.box c.cells] (dStr (listS n e)) [.box c.cells] [] := by
  refine C_intro T_ok (rs := [.tmp 4]) Try.func24 rfl rfl rfl (Nat.le_of_ble_eq_true rfl) (Nat.le_of_ble_eq_true rfl) rfl ⟨rfl, rfl⟩ rfl fun cx hn => ?_
  have hn : cx.n = 20 := hn
  have Y := And.intro T3 (T9)
  simp only [enumA, enumO, Nat.reduceAdd]
  repeat' first | refine R_nil ?_ | ((with_reducible apply tagG); first | refine qg1 ?_ | refine qg2 ?_ | refine qg3 ?_ | refine qg4 ?_ | refine qg5 ?_ | refine qg6 (fun hb => ?_) (fun hb => ?_)) | ((with_reducible apply tagK); first | ((with_reducible apply tagD); first | refine qd5 (C27 n (by omega) (by omega)) ?_) | ((with_reducible apply tagR); first | refine qr5 (C27 n (by omega) (by omega)) ?_)) | ((with_reducible apply tagS); first | ((with_reducible apply tagD); first | refine qd1 ?_ | refine qd3 ?_) | ((with_reducible apply tagR); first | refine qr1 ?_ | refine qr3 ?_)) | ((with_reducible apply tagN); first | ((with_reducible apply tagD); first | refine qd2 ?_ | refine qd4 ?_) | ((with_reducible apply tagR); first | refine qr2 ?_ | refine qr4 ?_)) | ((with_reducible apply tagW); first | refine qw1 ?_ | refine qw2 ?_ | refine qw3 ?_ | refine qw4 ?_ | refine qw5 ?_ | refine qw6 (fun hb => ?_) (fun hb => ?_) | refine qw7 ?_ | refine qw8 ?_ | refine qw9 ?_ | refine qw0 ?_) | refine thenQ_n ?_ | refine thenQ_e ?_ | refine thenQ_r ?_ | refine blockQ_n ?_ | refine blockQ_r ?_ | refine blockQ_hit ?_ | refine qb4 ?_ | refine qe ?_ | refine loopQ_e ?_ | refine loopQ_r ?_
  refine W_loopQ (fun i : Nat => [(10, dInt i), (9, dInt n), (1, .fn g [(1000, 0, 0)]), (5, dStr ((List.range i).foldl (fun s i => s ++ e i) (numS n)))]) (fun _ => [(1000, some (.box c.cells))]) (fun i => n - i) (fun i => i ≤ n) 0 (by omega) qs fun i hi => ?_
  by_cases h : i < n
  · have h1 : (i:Int) < (n : Int) := by omega
    have e3 : (List.range (i + 1)).foldl (fun s i => s ++ e i) (numS n) = (List.range i).foldl (fun s i => s ++ e i) (numS n) ++ e i := by
      rw [List.range_succ, List.foldl_append]; rfl
    have z1 := foldl_mono e (numS n) (show i + 1 ≤ n by omega)
    have z2 : (listS n e).size ≤ 1152921504606846976 := hz
    rw [e3, app_size] at z1
    unfold listS at z2
    generalize (List.range n).foldl (fun s i => s ++ e i) (numS n) = Z at *
    generalize (List.range i).foldl (fun s i => s ++ e i) (numS n) = A at *
    have hce := hC i h
    have E := @h1
    repeat' first | refine R_nil ?_ | ((with_reducible apply tagG); first | refine qg1 ?_ | refine qg2 ?_ | refine qg3 ?_ | refine qg4 ?_ | refine qg5 ?_ | refine qg6 (fun hb => ?_) (fun hb => ?_)) | ((with_reducible apply tagK); first | ((with_reducible apply tagD); first | refine qd7 [1000] (hce) ?_ | refine qd6 [1000] (hce) ?_) | ((with_reducible apply tagR); first | refine qr7 [1000] (hce) ?_ | refine qr6 [1000] (hce) ?_)) | ((with_reducible apply tagS); first | ((with_reducible apply tagD); first | refine qd1 ?_ | refine qd3 ?_) | ((with_reducible apply tagR); first | refine qr1 ?_ | refine qr3 ?_)) | ((with_reducible apply tagN); first | ((with_reducible apply tagD); first | refine qd2 ?_ | refine qd4 ?_) | ((with_reducible apply tagR); first | refine qr2 ?_ | refine qr4 ?_)) | ((with_reducible apply tagW); first | refine qw1 ?_ | refine qw2 ?_ | refine qw3 ?_ | refine qw4 ?_ | refine qw5 ?_ | refine qw6 (fun hb => ?_) (fun hb => ?_) | refine qw7 ?_ | refine qw8 ?_ | refine qw9 ?_ | refine qw0 ?_) | refine thenQ_n ?_ | refine thenQ_e ?_ | refine thenQ_r ?_ | refine blockQ_n ?_ | refine blockQ_r ?_ | refine blockQ_hit ?_ | refine qb4 ?_ | refine qe ?_ | refine loopQ_e ?_ | refine loopQ_r ?_
    all_goals clear E
    refine loopQ_n (i + 1) (by omega) (by omega) (by rw [e3]; exact qs)
  · have h1 : ¬ (i:Int) < (n : Int) := by omega
    have ei : i = n := by omega
    subst ei
    have E := @h1
    repeat' first | refine R_nil ?_ | ((with_reducible apply tagG); first | refine qg1 ?_ | refine qg2 ?_ | refine qg3 ?_ | refine qg4 ?_ | refine qg5 ?_ | refine qg6 (fun hb => ?_) (fun hb => ?_)) | ((with_reducible apply tagS); first | ((with_reducible apply tagD); first | refine qd1 ?_ | refine qd3 ?_) | ((with_reducible apply tagR); first | refine qr1 ?_ | refine qr3 ?_)) | ((with_reducible apply tagN); first | ((with_reducible apply tagD); first | refine qd2 ?_ | refine qd4 ?_) | ((with_reducible apply tagR); first | refine qr2 ?_ | refine qr4 ?_)) | ((with_reducible apply tagW); first | refine qw1 ?_ | refine qw2 ?_ | refine qw3 ?_ | refine qw4 ?_ | refine qw5 ?_ | refine qw6 (fun hb => ?_) (fun hb => ?_) | refine qw7 ?_ | refine qw8 ?_ | refine qw9 ?_ | refine qw0 ?_) | refine thenQ_n ?_ | refine thenQ_e ?_ | refine thenQ_r ?_ | refine blockQ_n ?_ | refine blockQ_r ?_ | refine blockQ_hit ?_ | refine qb4 ?_ | refine qe ?_ | refine loopQ_e ?_ | refine loopQ_r ?_
    all_goals clear E
    exact ret_dM rfl rfl rfl rfl
theorem C24i (g : Nat) (n : Nat) (c : Cod) (k : Int) (e : Nat → ByteArray) (hN : n ≤ 1099511627776) (hz : (listS n e).size ≤ 1152921504606846976)
    (hC : ∀ i : Nat, i < n → C Try.prog g [dInt i, .ptr 1000 0 0, .ptr 1001 0 0] [.box c.cells, .box [dInt k]] (dStr (e i)) [.box c.cells, .box [dInt k]] []) : C Try.prog 24 [dInt n, .fn g [(1000, 0, 0), (1001, 0, 0)]] [.box c.cells, .box [dInt k]] (dStr (listS n e)) [.box c.cells, .box [dInt k]] [] := by
  refine C_intro T_ok (rs := [.tmp 4]) Try.func24 rfl rfl rfl (Nat.le_of_ble_eq_true rfl) (Nat.le_of_ble_eq_true rfl) rfl ⟨rfl, rfl⟩ rfl fun cx hn => ?_
  have hn : cx.n = 20 := hn
  have Y := And.intro T3 (T9)
  simp only [enumA, enumO, Nat.reduceAdd]
  repeat' first | refine R_nil ?_ | ((with_reducible apply tagG); first | refine qg1 ?_ | refine qg2 ?_ | refine qg3 ?_ | refine qg4 ?_ | refine qg5 ?_ | refine qg6 (fun hb => ?_) (fun hb => ?_)) | ((with_reducible apply tagK); first | ((with_reducible apply tagD); first | refine qd5 (C27 n (by omega) (by omega)) ?_) | ((with_reducible apply tagR); first | refine qr5 (C27 n (by omega) (by omega)) ?_)) | ((with_reducible apply tagS); first | ((with_reducible apply tagD); first | refine qd1 ?_ | refine qd3 ?_) | ((with_reducible apply tagR); first | refine qr1 ?_ | refine qr3 ?_)) | ((with_reducible apply tagN); first | ((with_reducible apply tagD); first | refine qd2 ?_ | refine qd4 ?_) | ((with_reducible apply tagR); first | refine qr2 ?_ | refine qr4 ?_)) | ((with_reducible apply tagW); first | refine qw1 ?_ | refine qw2 ?_ | refine qw3 ?_ | refine qw4 ?_ | refine qw5 ?_ | refine qw6 (fun hb => ?_) (fun hb => ?_) | refine qw7 ?_ | refine qw8 ?_ | refine qw9 ?_ | refine qw0 ?_) | refine thenQ_n ?_ | refine thenQ_e ?_ | refine thenQ_r ?_ | refine blockQ_n ?_ | refine blockQ_r ?_ | refine blockQ_hit ?_ | refine qb4 ?_ | refine qe ?_ | refine loopQ_e ?_ | refine loopQ_r ?_
  refine W_loopQ (fun i : Nat => [(10, dInt i), (9, dInt n), (1, .fn g [(1000, 0, 0), (1001, 0, 0)]), (5, dStr ((List.range i).foldl (fun s i => s ++ e i) (numS n)))]) (fun _ => [(1000, some (.box c.cells)), (1001, some (.box [dInt k]))]) (fun i => n - i) (fun i => i ≤ n) 0 (by omega) qs fun i hi => ?_
  by_cases h : i < n
  · have h1 : (i:Int) < (n : Int) := by omega
    have e3 : (List.range (i + 1)).foldl (fun s i => s ++ e i) (numS n) = (List.range i).foldl (fun s i => s ++ e i) (numS n) ++ e i := by
      rw [List.range_succ, List.foldl_append]; rfl
    have z1 := foldl_mono e (numS n) (show i + 1 ≤ n by omega)
    have z2 : (listS n e).size ≤ 1152921504606846976 := hz
    rw [e3, app_size] at z1
    unfold listS at z2
    generalize (List.range n).foldl (fun s i => s ++ e i) (numS n) = Z at *
    generalize (List.range i).foldl (fun s i => s ++ e i) (numS n) = A at *
    have hce := hC i h
    have E := @h1
    repeat' first | refine R_nil ?_ | ((with_reducible apply tagG); first | refine qg1 ?_ | refine qg2 ?_ | refine qg3 ?_ | refine qg4 ?_ | refine qg5 ?_ | refine qg6 (fun hb => ?_) (fun hb => ?_)) | ((with_reducible apply tagK); first | ((with_reducible apply tagD); first | refine qd7 [1000, 1001] (hce) ?_ | refine qd6 [1000, 1001] (hce) ?_) | ((with_reducible apply tagR); first | refine qr7 [1000, 1001] (hce) ?_ | refine qr6 [1000, 1001] (hce) ?_)) | ((with_reducible apply tagS); first | ((with_reducible apply tagD); first | refine qd1 ?_ | refine qd3 ?_) | ((with_reducible apply tagR); first | refine qr1 ?_ | refine qr3 ?_)) | ((with_reducible apply tagN); first | ((with_reducible apply tagD); first | refine qd2 ?_ | refine qd4 ?_) | ((with_reducible apply tagR); first | refine qr2 ?_ | refine qr4 ?_)) | ((with_reducible apply tagW); first | refine qw1 ?_ | refine qw2 ?_ | refine qw3 ?_ | refine qw4 ?_ | refine qw5 ?_ | refine qw6 (fun hb => ?_) (fun hb => ?_) | refine qw7 ?_ | refine qw8 ?_ | refine qw9 ?_ | refine qw0 ?_) | refine thenQ_n ?_ | refine thenQ_e ?_ | refine thenQ_r ?_ | refine blockQ_n ?_ | refine blockQ_r ?_ | refine blockQ_hit ?_ | refine qb4 ?_ | refine qe ?_ | refine loopQ_e ?_ | refine loopQ_r ?_
    all_goals clear E
    refine loopQ_n (i + 1) (by omega) (by omega) (by rw [e3]; exact qs)
  · have h1 : ¬ (i:Int) < (n : Int) := by omega
    have ei : i = n := by omega
    subst ei
    have E := @h1
    repeat' first | refine R_nil ?_ | ((with_reducible apply tagG); first | refine qg1 ?_ | refine qg2 ?_ | refine qg3 ?_ | refine qg4 ?_ | refine qg5 ?_ | refine qg6 (fun hb => ?_) (fun hb => ?_)) | ((with_reducible apply tagS); first | ((with_reducible apply tagD); first | refine qd1 ?_ | refine qd3 ?_) | ((with_reducible apply tagR); first | refine qr1 ?_ | refine qr3 ?_)) | ((with_reducible apply tagN); first | ((with_reducible apply tagD); first | refine qd2 ?_ | refine qd4 ?_) | ((with_reducible apply tagR); first | refine qr2 ?_ | refine qr4 ?_)) | ((with_reducible apply tagW); first | refine qw1 ?_ | refine qw2 ?_ | refine qw3 ?_ | refine qw4 ?_ | refine qw5 ?_ | refine qw6 (fun hb => ?_) (fun hb => ?_) | refine qw7 ?_ | refine qw8 ?_ | refine qw9 ?_ | refine qw0 ?_) | refine thenQ_n ?_ | refine thenQ_e ?_ | refine thenQ_r ?_ | refine blockQ_n ?_ | refine blockQ_r ?_ | refine blockQ_hit ?_ | refine qb4 ?_ | refine qe ?_ | refine loopQ_e ?_ | refine loopQ_r ?_
    all_goals clear E
    exact ret_dM rfl rfl rfl rfl
end Go.Pw
