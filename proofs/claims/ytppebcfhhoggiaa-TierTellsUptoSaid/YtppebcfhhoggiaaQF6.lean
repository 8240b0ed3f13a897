/- Functions: what an instruction reads. -/
import Derived.Test.YtppebcfhhoggiaaQF5
set_option linter.unusedVariables false
set_option linter.unusedSimpArgs false
namespace Go.Pw
open Go Go.Proofs
attribute [local irreducible] runL W endD thenQ blockQ loopQ
set_option maxRecDepth 4000
set_option maxHeartbeats 2000000
def readsOf (i : Ins) : List Int :=
  if i.op = 2 ∨ i.op = 20 ∨ i.op = 21 then [i.b]
  else if i.op = 4 ∨ i.op = 11 ∨ i.op = 18 ∨ i.op = 19 ∨ i.op = 23 ∨ i.op = 24 ∨ i.op = 25 ∨ i.op = 26 ∨ i.op = 27 then [i.a]
  else if i.op = 5 ∨ i.op = 6 ∨ i.op = 7 ∨ i.op = 8 ∨ i.op = 10 ∨ i.op = 12 ∨ i.op = 15 then i.args
  else if i.op = 9 then i.b :: i.args
  else if i.op = 13 ∨ i.op = 22 then [i.a, i.b]
  else []
theorem C69 (i : Ins) (hs : Sm i.args) : C Try.prog 69 [i.av] [] (.ref 2000 0 (readsOf i).length) [] [.row 1 (ints (readsOf i))] := by
  refine C_intro T_ok (rs := [.tmp 2]) Try.func69 rfl rfl rfl (Nat.le_of_ble_eq_true rfl) (Nat.le_of_ble_eq_true rfl) rfl ⟨rfl, rfl⟩ rfl fun cx hn => ?_
  have hn : cx.n = 52 := hn
  have Y := And.intro T3 (And.intro T23 (T60))
  simp only [enumA, enumO, Nat.reduceAdd]
  have d1 : (ints i.args).length = i.args.length := ints_len _
  repeat' first | refine R_nil ?_ | ((with_reducible apply tagG); first | refine qg1 ?_ | refine qg2 ?_ | refine qg3 ?_ | refine qg4 ?_ | refine qg5 ?_ | refine qg6 (fun hb => ?_) (fun hb => ?_)) | ((with_reducible apply tagS); first | ((with_reducible apply tagD); first | refine qd1 ?_ | refine qd3 ?_) | ((with_reducible apply tagR); first | refine qr1 ?_ | refine qr3 ?_)) | ((with_reducible apply tagN); first | ((with_reducible apply tagD); first | refine qd2 ?_ | refine qd4 ?_) | ((with_reducible apply tagR); first | refine qr2 ?_ | refine qr4 ?_)) | ((with_reducible apply tagW); first | refine qw1 ?_ | refine qw2 ?_ | refine qw3 ?_ | refine qw4 ?_ | refine qw5 ?_ | refine qw6 (fun hb => ?_) (fun hb => ?_) | refine qw7 ?_ | refine qw8 ?_ | refine qw9 ?_ | refine qw0 ?_) | refine thenQ_n ?_ | refine thenQ_e ?_ | refine thenQ_r ?_ | refine blockQ_n ?_ | refine blockQ_r ?_ | refine blockQ_hit ?_ | refine qb4 ?_ | refine qe ?_ | refine loopQ_e ?_ | refine loopQ_r ?_
  all_goals first
    | exact ret_own rfl rfl rfl (by simp_all [readsOf]) (by simp_all [readsOf, ints])
    | (rw [show readsOf i = [] by simp_all [readsOf]]; exact ret_nil 1 rfl)
def nextOf (i : Ins) (pc : Int) : List Int :=
  if i.op = 3 then [i.a]
  else if i.op = 4 then [pc + 1, i.b]
  else if i.op = 27 then [pc + 1, i.c]
  else if i.op = 11 ∨ i.op = 16 then
    (if i.op = 16 then (match i.args with | [] => [] | x :: _ => if 0 ≤ x then [x] else []) else []) ++ (armsOf i).map (·.pc)
  else if i.op = 15 ∨ i.op = 17 ∨ i.op = 18 ∨ i.op = 25 then []
  else [pc + 1]
theorem gather_len : ∀ (f : Nat) (l : List Int) (r : List Arm), gather f l = some r → r.length ≤ l.length
  | 0, _, _, h => by cases h
  | _ + 1, [], r, h => by cases h; simp
  | _ + 1, [_], _, h => by cases h
  | f + 1, p :: n :: l, r, h => by
    simp only [gather] at h
    split at h
    · cases h
    · cases hg : gather f (l.drop n.toNat) with
      | none => rw [hg] at h; cases h
      | some r' =>
        rw [hg] at h; cases h
        have := gather_len f _ _ hg
        rw [List.length_drop] at this
        simp only [List.length_cons]; omega
theorem gath_len (l : List Int) : (gath l).length ≤ l.length := by
  unfold gath gat
  cases h : gather (l.length + 1) l with
  | none => simp
  | some r => exact gather_len _ _ _ h
theorem armsOf_len (i : Ins) : (armsOf i).length ≤ i.args.length := by
  unfold armsOf
  split
  · exact gath_len _
  · split
    · cases h : i.args with
      | nil => simp
      | cons x l => have := gath_len l; simp only [List.length_cons]; omega
    · simp
theorem C68 (i : Ins) (pc : Int) (hs : Sm i.args) (h0 : 0 ≤ pc) (hp : pc ≤ 1099511627776) : C Try.prog 68 [i.av, dInt pc] [] (.ref 2000 0 (nextOf i pc).length) [] [.row 1 (ints (nextOf i pc))] := by
  have hal := armsOf_len i
  by_cases h11 : i.op = 11
  · have hE : nextOf i pc = [] ++ (armsOf i).map (·.pc) := by simp [nextOf, h11]
    have e11 : decide (i.op = 11) = true := by simp [h11]
    have ne : ∀ k : Int, k ≠ 11 → decide (i.op = k) = false := fun k hk => by simp [h11]; omega
    refine C_intro T_ok (rs := [.tmp 4]) Try.func68 rfl rfl rfl (Nat.le_of_ble_eq_true rfl) (Nat.le_of_ble_eq_true rfl) rfl ⟨rfl, rfl⟩ rfl fun cx hn => ?_
    have hn : cx.n = 77 := hn
    have Y := And.intro T3 (And.intro T23 (And.intro T60 (And.intro T95 (T98))))
    simp only [enumA, enumO, Nat.reduceAdd]
    have E := And.intro @e11 (@ne)
    repeat' first | refine R_nil ?_ | ((with_reducible apply tagG); first | refine qg1 ?_ | refine qg2 ?_ | refine qg3 ?_ | refine qg4 ?_ | refine qg5 ?_ | refine qg6 (fun hb => ?_) (fun hb => ?_)) | ((with_reducible apply tagK); first | ((with_reducible apply tagD); first | refine qd6 [] (C66 i hs) ?_) | ((with_reducible apply tagR); first | refine qr6 [] (C66 i hs) ?_)) | ((with_reducible apply tagS); first | ((with_reducible apply tagD); first | refine qd1 ?_ | refine qd3 ?_) | ((with_reducible apply tagR); first | refine qr1 ?_ | refine qr3 ?_)) | ((with_reducible apply tagN); first | ((with_reducible apply tagD); first | refine qd2 ?_ | refine qd4 ?_) | ((with_reducible apply tagR); first | refine qr2 ?_ | refine qr4 ?_)) | ((with_reducible apply tagW); first | refine qw1 ?_ | refine qw2 ?_ | refine qw3 ?_ | refine qw4 ?_ | refine qw5 ?_ | refine qw6 (fun hb => ?_) (fun hb => ?_) | refine qw7 ?_ | refine qw8 ?_ | refine qw9 ?_ | refine qw0 ?_) | refine thenQ_n ?_ | refine thenQ_e ?_ | refine thenQ_r ?_ | refine blockQ_n ?_ | refine blockQ_r ?_ | refine blockQ_hit ?_ | refine qb4 ?_ | refine qe ?_ | refine loopQ_e ?_ | refine loopQ_r ?_
    all_goals clear E
    refine W_ghost (G_adopt 5 54 1 rfl rfl (.inr (by decide))) ?_
    refine W_loopQ (fun k : Nat => [(58, dInt k), (57, dInt (armsOf i).length), (56, .ref 2448 0 (armsOf i).length), (5, .ref 54 0 ((([] : List Int)) ++ ((armsOf i).take k).map (·.pc)).length)]) (fun k => [(54, some (.row 1 (ints ((([] : List Int)) ++ ((armsOf i).take k).map (·.pc))))), (2448, some (.row 2 (armsD (armsOf i))))]) (fun k => (armsOf i).length - k) (fun k => k ≤ (armsOf i).length) 0 (by omega) qs fun k hk => ?_
    by_cases h : k < (armsOf i).length
    · obtain ⟨x, hx⟩ := get_ex h
      have h1 : (k:Int) < (armsOf i).length := by omega
      have e1 : (([] : List Int)) ++ ((armsOf i).take (k + 1)).map (·.pc) = ((([] : List Int)) ++ ((armsOf i).take k).map (·.pc)) ++ [x.pc] := by
        rw [List.take_add_one, hx]; simp
      have hA : ((([] : List Int)) ++ ((armsOf i).take k).map (·.pc)).length ≤ 1 + (armsOf i).length := by simp; omega
      have g1 : (List.take (armsOf i).length (armsD (armsOf i))) = armsD (armsOf i) := List.take_of_length_le (by rw [armsD_len]; omega)
      generalize (([] : List Int)) ++ ((armsOf i).take k).map (·.pc) = A at *
      have d1 : (ints A).take A.length = ints A := List.take_of_length_le (by rw [ints_len]; omega)
      have d2 : ints A ++ [[DI x.pc]] = ints (A ++ [x.pc]) := by simp [ints]
      have E := And.intro @h1 (And.intro (armsD_get hx) (And.intro @d1 (And.intro @d2 (@g1))))
      repeat' first | refine R_nil ?_ | ((with_reducible apply tagG); first | refine qg1 ?_ | refine qg2 ?_ | refine qg3 ?_ | refine qg4 ?_ | refine qg5 ?_ | refine qg6 (fun hb => ?_) (fun hb => ?_)) | ((with_reducible apply tagS); first | ((with_reducible apply tagD); first | refine qd1 ?_ | refine qd3 ?_) | ((with_reducible apply tagR); first | refine qr1 ?_ | refine qr3 ?_)) | ((with_reducible apply tagN); first | ((with_reducible apply tagD); first | refine qd2 ?_ | refine qd4 ?_) | ((with_reducible apply tagR); first | refine qr2 ?_ | refine qr4 ?_)) | ((with_reducible apply tagW); first | refine qw1 ?_ | refine qw2 ?_ | refine qw3 ?_ | refine qw4 ?_ | refine qw5 ?_ | refine qw6 (fun hb => ?_) (fun hb => ?_) | refine qw7 ?_ | refine qw8 ?_ | refine qw9 ?_ | refine qw0 ?_) | refine thenQ_n ?_ | refine thenQ_e ?_ | refine thenQ_r ?_ | refine blockQ_n ?_ | refine blockQ_r ?_ | refine blockQ_hit ?_ | refine qb4 ?_ | refine qe ?_ | refine loopQ_e ?_ | refine loopQ_r ?_
      all_goals clear E
      refine loopQ_n (k + 1) (by omega) (by omega) (by rw [e1]; exact qs)
    · have h1 : ¬ (k:Int) < (armsOf i).length := by omega
      have E := @h1
      repeat' first | refine R_nil ?_ | ((with_reducible apply tagG); first | refine qg1 ?_ | refine qg2 ?_ | refine qg3 ?_ | refine qg4 ?_ | refine qg5 ?_ | refine qg6 (fun hb => ?_) (fun hb => ?_)) | ((with_reducible apply tagS); first | ((with_reducible apply tagD); first | refine qd1 ?_ | refine qd3 ?_) | ((with_reducible apply tagR); first | refine qr1 ?_ | refine qr3 ?_)) | ((with_reducible apply tagN); first | ((with_reducible apply tagD); first | refine qd2 ?_ | refine qd4 ?_) | ((with_reducible apply tagR); first | refine qr2 ?_ | refine qr4 ?_)) | ((with_reducible apply tagW); first | refine qw1 ?_ | refine qw2 ?_ | refine qw3 ?_ | refine qw4 ?_ | refine qw5 ?_ | refine qw6 (fun hb => ?_) (fun hb => ?_) | refine qw7 ?_ | refine qw8 ?_ | refine qw9 ?_ | refine qw0 ?_) | refine thenQ_n ?_ | refine thenQ_e ?_ | refine thenQ_r ?_ | refine blockQ_n ?_ | refine blockQ_r ?_ | refine blockQ_hit ?_ | refine qb4 ?_ | refine qe ?_ | refine loopQ_e ?_ | refine loopQ_r ?_
      all_goals clear E
      have e : (armsOf i).take k = armsOf i := List.take_of_length_le (by omega)
      exact ret_own rfl rfl rfl (by rw [hE]; simp [e]) (by rw [hE]; simp [e])
  by_cases h16 : i.op = 16
  · have e16 : decide (i.op = 16) = true := by simp [h16]
    have ne : ∀ k : Int, k ≠ 16 → decide (i.op = k) = false := fun k hk => by simp [h16]; omega
    by_cases hl0 : i.args.length = 0
    · have hl : i.args = [] := List.eq_nil_of_length_eq_zero hl0
      have hE : nextOf i pc = [] ++ (armsOf i).map (·.pc) := by simp [nextOf, h16, hl]
      have hl1 : ¬ (0:Int) < (i.args.length : Int) := by omega
      refine C_intro T_ok (rs := [.tmp 4]) Try.func68 rfl rfl rfl (Nat.le_of_ble_eq_true rfl) (Nat.le_of_ble_eq_true rfl) rfl ⟨rfl, rfl⟩ rfl fun cx hn => ?_
      have hn : cx.n = 77 := hn
      have Y := And.intro T3 (And.intro T23 (And.intro T60 (And.intro T95 (T98))))
      simp only [enumA, enumO, Nat.reduceAdd]
      have E := And.intro @e16 (And.intro @ne (@hl1))
      repeat' first | refine R_nil ?_ | ((with_reducible apply tagG); first | refine qg1 ?_ | refine qg2 ?_ | refine qg3 ?_ | refine qg4 ?_ | refine qg5 ?_ | refine qg6 (fun hb => ?_) (fun hb => ?_)) | ((with_reducible apply tagK); first | ((with_reducible apply tagD); first | refine qd6 [] (C66 i hs) ?_) | ((with_reducible apply tagR); first | refine qr6 [] (C66 i hs) ?_)) | ((with_reducible apply tagS); first | ((with_reducible apply tagD); first | refine qd1 ?_ | refine qd3 ?_) | ((with_reducible apply tagR); first | refine qr1 ?_ | refine qr3 ?_)) | ((with_reducible apply tagN); first | ((with_reducible apply tagD); first | refine qd2 ?_ | refine qd4 ?_) | ((with_reducible apply tagR); first | refine qr2 ?_ | refine qr4 ?_)) | ((with_reducible apply tagW); first | refine qw1 ?_ | refine qw2 ?_ | refine qw3 ?_ | refine qw4 ?_ | refine qw5 ?_ | refine qw6 (fun hb => ?_) (fun hb => ?_) | refine qw7 ?_ | refine qw8 ?_ | refine qw9 ?_ | refine qw0 ?_) | refine thenQ_n ?_ | refine thenQ_e ?_ | refine thenQ_r ?_ | refine blockQ_n ?_ | refine blockQ_r ?_ | refine blockQ_hit ?_ | refine qb4 ?_ | refine qe ?_ | refine loopQ_e ?_ | refine loopQ_r ?_
      all_goals clear E
      refine W_ghost (G_adopt 5 54 1 rfl rfl (.inr (by decide))) ?_
      refine W_loopQ (fun k : Nat => [(58, dInt k), (57, dInt (armsOf i).length), (56, .ref 2448 0 (armsOf i).length), (5, .ref 54 0 ((([] : List Int)) ++ ((armsOf i).take k).map (·.pc)).length)]) (fun k => [(54, some (.row 1 (ints ((([] : List Int)) ++ ((armsOf i).take k).map (·.pc))))), (2448, some (.row 2 (armsD (armsOf i))))]) (fun k => (armsOf i).length - k) (fun k => k ≤ (armsOf i).length) 0 (by omega) qs fun k hk => ?_
      by_cases h : k < (armsOf i).length
      · obtain ⟨x, hx⟩ := get_ex h
        have h1 : (k:Int) < (armsOf i).length := by omega
        have e1 : (([] : List Int)) ++ ((armsOf i).take (k + 1)).map (·.pc) = ((([] : List Int)) ++ ((armsOf i).take k).map (·.pc)) ++ [x.pc] := by
          rw [List.take_add_one, hx]; simp
        have hA : ((([] : List Int)) ++ ((armsOf i).take k).map (·.pc)).length ≤ 1 + (armsOf i).length := by simp; omega
        have g1 : (List.take (armsOf i).length (armsD (armsOf i))) = armsD (armsOf i) := List.take_of_length_le (by rw [armsD_len]; omega)
        generalize (([] : List Int)) ++ ((armsOf i).take k).map (·.pc) = A at *
        have d1 : (ints A).take A.length = ints A := List.take_of_length_le (by rw [ints_len]; omega)
        have d2 : ints A ++ [[DI x.pc]] = ints (A ++ [x.pc]) := by simp [ints]
        have E := And.intro @h1 (And.intro (armsD_get hx) (And.intro @d1 (And.intro @d2 (@g1))))
        repeat' first | refine R_nil ?_ | ((with_reducible apply tagG); first | refine qg1 ?_ | refine qg2 ?_ | refine qg3 ?_ | refine qg4 ?_ | refine qg5 ?_ | refine qg6 (fun hb => ?_) (fun hb => ?_)) | ((with_reducible apply tagS); first | ((with_reducible apply tagD); first | refine qd1 ?_ | refine qd3 ?_) | ((with_reducible apply tagR); first | refine qr1 ?_ | refine qr3 ?_)) | ((with_reducible apply tagN); first | ((with_reducible apply tagD); first | refine qd2 ?_ | refine qd4 ?_) | ((with_reducible apply tagR); first | refine qr2 ?_ | refine qr4 ?_)) | ((with_reducible apply tagW); first | refine qw1 ?_ | refine qw2 ?_ | refine qw3 ?_ | refine qw4 ?_ | refine qw5 ?_ | refine qw6 (fun hb => ?_) (fun hb => ?_) | refine qw7 ?_ | refine qw8 ?_ | refine qw9 ?_ | refine qw0 ?_) | refine thenQ_n ?_ | refine thenQ_e ?_ | refine thenQ_r ?_ | refine blockQ_n ?_ | refine blockQ_r ?_ | refine blockQ_hit ?_ | refine qb4 ?_ | refine qe ?_ | refine loopQ_e ?_ | refine loopQ_r ?_
        all_goals clear E
        refine loopQ_n (k + 1) (by omega) (by omega) (by rw [e1]; exact qs)
      · have h1 : ¬ (k:Int) < (armsOf i).length := by omega
        have E := @h1
        repeat' first | refine R_nil ?_ | ((with_reducible apply tagG); first | refine qg1 ?_ | refine qg2 ?_ | refine qg3 ?_ | refine qg4 ?_ | refine qg5 ?_ | refine qg6 (fun hb => ?_) (fun hb => ?_)) | ((with_reducible apply tagS); first | ((with_reducible apply tagD); first | refine qd1 ?_ | refine qd3 ?_) | ((with_reducible apply tagR); first | refine qr1 ?_ | refine qr3 ?_)) | ((with_reducible apply tagN); first | ((with_reducible apply tagD); first | refine qd2 ?_ | refine qd4 ?_) | ((with_reducible apply tagR); first | refine qr2 ?_ | refine qr4 ?_)) | ((with_reducible apply tagW); first | refine qw1 ?_ | refine qw2 ?_ | refine qw3 ?_ | refine qw4 ?_ | refine qw5 ?_ | refine qw6 (fun hb => ?_) (fun hb => ?_) | refine qw7 ?_ | refine qw8 ?_ | refine qw9 ?_ | refine qw0 ?_) | refine thenQ_n ?_ | refine thenQ_e ?_ | refine thenQ_r ?_ | refine blockQ_n ?_ | refine blockQ_r ?_ | refine blockQ_hit ?_ | refine qb4 ?_ | refine qe ?_ | refine loopQ_e ?_ | refine loopQ_r ?_
        all_goals clear E
        have e : (armsOf i).take k = armsOf i := List.take_of_length_le (by omega)
        exact ret_own rfl rfl rfl (by rw [hE]; simp [e]) (by rw [hE]; simp [e])
    · obtain ⟨y, hy⟩ := get_ex (show 0 < i.args.length by omega)
      have hl1 : (0:Int) < (i.args.length : Int) := by omega
      have t0 : Int.toNat 0 = 0 := rfl
      by_cases hy0 : 0 ≤ y
      · have hE : nextOf i pc = [y] ++ (armsOf i).map (·.pc) := by
          cases hl : i.args with
          | nil => rw [hl] at hl0; simp at hl0
          | cons z l => rw [hl] at hy; simp at hy; subst hy; simp [nextOf, h16, hl, hy0]
        refine C_intro T_ok (rs := [.tmp 4]) Try.func68 rfl rfl rfl (Nat.le_of_ble_eq_true rfl) (Nat.le_of_ble_eq_true rfl) rfl ⟨rfl, rfl⟩ rfl fun cx hn => ?_
        have hn : cx.n = 77 := hn
        have Y := And.intro T3 (And.intro T23 (And.intro T60 (And.intro T95 (T98))))
        simp only [enumA, enumO, Nat.reduceAdd]
        have E := And.intro @e16 (And.intro @ne (And.intro @hl1 (And.intro @hy0 (And.intro (ints_get hy) (@t0)))))
        repeat' first | refine R_nil ?_ | ((with_reducible apply tagG); first | refine qg1 ?_ | refine qg2 ?_ | refine qg3 ?_ | refine qg4 ?_ | refine qg5 ?_ | refine qg6 (fun hb => ?_) (fun hb => ?_)) | ((with_reducible apply tagK); first | ((with_reducible apply tagD); first | refine qd6 [] (C66 i hs) ?_) | ((with_reducible apply tagR); first | refine qr6 [] (C66 i hs) ?_)) | ((with_reducible apply tagS); first | ((with_reducible apply tagD); first | refine qd1 ?_ | refine qd3 ?_) | ((with_reducible apply tagR); first | refine qr1 ?_ | refine qr3 ?_)) | ((with_reducible apply tagN); first | ((with_reducible apply tagD); first | refine qd2 ?_ | refine qd4 ?_) | ((with_reducible apply tagR); first | refine qr2 ?_ | refine qr4 ?_)) | ((with_reducible apply tagW); first | refine qw1 ?_ | refine qw2 ?_ | refine qw3 ?_ | refine qw4 ?_ | refine qw5 ?_ | refine qw6 (fun hb => ?_) (fun hb => ?_) | refine qw7 ?_ | refine qw8 ?_ | refine qw9 ?_ | refine qw0 ?_) | refine thenQ_n ?_ | refine thenQ_e ?_ | refine thenQ_r ?_ | refine blockQ_n ?_ | refine blockQ_r ?_ | refine blockQ_hit ?_ | refine qb4 ?_ | refine qe ?_ | refine loopQ_e ?_ | refine loopQ_r ?_
        all_goals clear E
        refine W_loopQ (fun k : Nat => [(58, dInt k), (57, dInt (armsOf i).length), (56, .ref 2448 0 (armsOf i).length), (5, .ref 54 0 (([y]) ++ ((armsOf i).take k).map (·.pc)).length)]) (fun k => [(54, some (.row 1 (ints (([y]) ++ ((armsOf i).take k).map (·.pc))))), (2448, some (.row 2 (armsD (armsOf i))))]) (fun k => (armsOf i).length - k) (fun k => k ≤ (armsOf i).length) 0 (by omega) qs fun k hk => ?_
        by_cases h : k < (armsOf i).length
        · obtain ⟨x, hx⟩ := get_ex h
          have h1 : (k:Int) < (armsOf i).length := by omega
          have e1 : ([y]) ++ ((armsOf i).take (k + 1)).map (·.pc) = (([y]) ++ ((armsOf i).take k).map (·.pc)) ++ [x.pc] := by
            rw [List.take_add_one, hx]; simp
          have hA : (([y]) ++ ((armsOf i).take k).map (·.pc)).length ≤ 1 + (armsOf i).length := by simp; omega
          have g1 : (List.take (armsOf i).length (armsD (armsOf i))) = armsD (armsOf i) := List.take_of_length_le (by rw [armsD_len]; omega)
          generalize ([y]) ++ ((armsOf i).take k).map (·.pc) = A at *
          have d1 : (ints A).take A.length = ints A := List.take_of_length_le (by rw [ints_len]; omega)
          have d2 : ints A ++ [[DI x.pc]] = ints (A ++ [x.pc]) := by simp [ints]
          have E := And.intro @h1 (And.intro (armsD_get hx) (And.intro @d1 (And.intro @d2 (@g1))))
          repeat' first | refine R_nil ?_ | ((with_reducible apply tagG); first | refine qg1 ?_ | refine qg2 ?_ | refine qg3 ?_ | refine qg4 ?_ | refine qg5 ?_ | refine qg6 (fun hb => ?_) (fun hb => ?_)) | ((with_reducible apply tagS); first | ((with_reducible apply tagD); first | refine qd1 ?_ | refine qd3 ?_) | ((with_reducible apply tagR); first | refine qr1 ?_ | refine qr3 ?_)) | ((with_reducible apply tagN); first | ((with_reducible apply tagD); first | refine qd2 ?_ | refine qd4 ?_) | ((with_reducible apply tagR); first | refine qr2 ?_ | refine qr4 ?_)) | ((with_reducible apply tagW); first | refine qw1 ?_ | refine qw2 ?_ | refine qw3 ?_ | refine qw4 ?_ | refine qw5 ?_ | refine qw6 (fun hb => ?_) (fun hb => ?_) | refine qw7 ?_ | refine qw8 ?_ | refine qw9 ?_ | refine qw0 ?_) | refine thenQ_n ?_ | refine thenQ_e ?_ | refine thenQ_r ?_ | refine blockQ_n ?_ | refine blockQ_r ?_ | refine blockQ_hit ?_ | refine qb4 ?_ | refine qe ?_ | refine loopQ_e ?_ | refine loopQ_r ?_
          all_goals clear E
          refine loopQ_n (k + 1) (by omega) (by omega) (by rw [e1]; exact qs)
        · have h1 : ¬ (k:Int) < (armsOf i).length := by omega
          have E := @h1
          repeat' first | refine R_nil ?_ | ((with_reducible apply tagG); first | refine qg1 ?_ | refine qg2 ?_ | refine qg3 ?_ | refine qg4 ?_ | refine qg5 ?_ | refine qg6 (fun hb => ?_) (fun hb => ?_)) | ((with_reducible apply tagS); first | ((with_reducible apply tagD); first | refine qd1 ?_ | refine qd3 ?_) | ((with_reducible apply tagR); first | refine qr1 ?_ | refine qr3 ?_)) | ((with_reducible apply tagN); first | ((with_reducible apply tagD); first | refine qd2 ?_ | refine qd4 ?_) | ((with_reducible apply tagR); first | refine qr2 ?_ | refine qr4 ?_)) | ((with_reducible apply tagW); first | refine qw1 ?_ | refine qw2 ?_ | refine qw3 ?_ | refine qw4 ?_ | refine qw5 ?_ | refine qw6 (fun hb => ?_) (fun hb => ?_) | refine qw7 ?_ | refine qw8 ?_ | refine qw9 ?_ | refine qw0 ?_) | refine thenQ_n ?_ | refine thenQ_e ?_ | refine thenQ_r ?_ | refine blockQ_n ?_ | refine blockQ_r ?_ | refine blockQ_hit ?_ | refine qb4 ?_ | refine qe ?_ | refine loopQ_e ?_ | refine loopQ_r ?_
          all_goals clear E
          have e : (armsOf i).take k = armsOf i := List.take_of_length_le (by omega)
          exact ret_own rfl rfl rfl (by rw [hE]; simp [e]) (by rw [hE]; simp [e])
      · have hE : nextOf i pc = [] ++ (armsOf i).map (·.pc) := by
          cases hl : i.args with
          | nil => rw [hl] at hl0; simp at hl0
          | cons z l => rw [hl] at hy; simp at hy; subst hy; simp [nextOf, h16, hl, hy0]
        refine C_intro T_ok (rs := [.tmp 4]) Try.func68 rfl rfl rfl (Nat.le_of_ble_eq_true rfl) (Nat.le_of_ble_eq_true rfl) rfl ⟨rfl, rfl⟩ rfl fun cx hn => ?_
        have hn : cx.n = 77 := hn
        have Y := And.intro T3 (And.intro T23 (And.intro T60 (And.intro T95 (T98))))
        simp only [enumA, enumO, Nat.reduceAdd]
        have E := And.intro @e16 (And.intro @ne (And.intro @hl1 (And.intro @hy0 (And.intro (ints_get hy) (@t0)))))
        repeat' first | refine R_nil ?_ | ((with_reducible apply tagG); first | refine qg1 ?_ | refine qg2 ?_ | refine qg3 ?_ | refine qg4 ?_ | refine qg5 ?_ | refine qg6 (fun hb => ?_) (fun hb => ?_)) | ((with_reducible apply tagK); first | ((with_reducible apply tagD); first | refine qd6 [] (C66 i hs) ?_) | ((with_reducible apply tagR); first | refine qr6 [] (C66 i hs) ?_)) | ((with_reducible apply tagS); first | ((with_reducible apply tagD); first | refine qd1 ?_ | refine qd3 ?_) | ((with_reducible apply tagR); first | refine qr1 ?_ | refine qr3 ?_)) | ((with_reducible apply tagN); first | ((with_reducible apply tagD); first | refine qd2 ?_ | refine qd4 ?_) | ((with_reducible apply tagR); first | refine qr2 ?_ | refine qr4 ?_)) | ((with_reducible apply tagW); first | refine qw1 ?_ | refine qw2 ?_ | refine qw3 ?_ | refine qw4 ?_ | refine qw5 ?_ | refine qw6 (fun hb => ?_) (fun hb => ?_) | refine qw7 ?_ | refine qw8 ?_ | refine qw9 ?_ | refine qw0 ?_) | refine thenQ_n ?_ | refine thenQ_e ?_ | refine thenQ_r ?_ | refine blockQ_n ?_ | refine blockQ_r ?_ | refine blockQ_hit ?_ | refine qb4 ?_ | refine qe ?_ | refine loopQ_e ?_ | refine loopQ_r ?_
        all_goals clear E
        refine W_ghost (G_adopt 5 54 1 rfl rfl (.inr (by decide))) ?_
        refine W_loopQ (fun k : Nat => [(58, dInt k), (57, dInt (armsOf i).length), (56, .ref 2448 0 (armsOf i).length), (5, .ref 54 0 ((([] : List Int)) ++ ((armsOf i).take k).map (·.pc)).length)]) (fun k => [(54, some (.row 1 (ints ((([] : List Int)) ++ ((armsOf i).take k).map (·.pc))))), (2448, some (.row 2 (armsD (armsOf i))))]) (fun k => (armsOf i).length - k) (fun k => k ≤ (armsOf i).length) 0 (by omega) qs fun k hk => ?_
        by_cases h : k < (armsOf i).length
        · obtain ⟨x, hx⟩ := get_ex h
          have h1 : (k:Int) < (armsOf i).length := by omega
          have e1 : (([] : List Int)) ++ ((armsOf i).take (k + 1)).map (·.pc) = ((([] : List Int)) ++ ((armsOf i).take k).map (·.pc)) ++ [x.pc] := by
            rw [List.take_add_one, hx]; simp
          have hA : ((([] : List Int)) ++ ((armsOf i).take k).map (·.pc)).length ≤ 1 + (armsOf i).length := by simp; omega
          have g1 : (List.take (armsOf i).length (armsD (armsOf i))) = armsD (armsOf i) := List.take_of_length_le (by rw [armsD_len]; omega)
          generalize (([] : List Int)) ++ ((armsOf i).take k).map (·.pc) = A at *
          have d1 : (ints A).take A.length = ints A := List.take_of_length_le (by rw [ints_len]; omega)
          have d2 : ints A ++ [[DI x.pc]] = ints (A ++ [x.pc]) := by simp [ints]
          have E := And.intro @h1 (And.intro (armsD_get hx) (And.intro @d1 (And.intro @d2 (@g1))))
          repeat' first | refine R_nil ?_ | ((with_reducible apply tagG); first | refine qg1 ?_ | refine qg2 ?_ | refine qg3 ?_ | refine qg4 ?_ | refine qg5 ?_ | refine qg6 (fun hb => ?_) (fun hb => ?_)) | ((with_reducible apply tagS); first | ((with_reducible apply tagD); first | refine qd1 ?_ | refine qd3 ?_) | ((with_reducible apply tagR); first | refine qr1 ?_ | refine qr3 ?_)) | ((with_reducible apply tagN); first | ((with_reducible apply tagD); first | refine qd2 ?_ | refine qd4 ?_) | ((with_reducible apply tagR); first | refine qr2 ?_ | refine qr4 ?_)) | ((with_reducible apply tagW); first | refine qw1 ?_ | refine qw2 ?_ | refine qw3 ?_ | refine qw4 ?_ | refine qw5 ?_ | refine qw6 (fun hb => ?_) (fun hb => ?_) | refine qw7 ?_ | refine qw8 ?_ | refine qw9 ?_ | refine qw0 ?_) | refine thenQ_n ?_ | refine thenQ_e ?_ | refine thenQ_r ?_ | refine blockQ_n ?_ | refine blockQ_r ?_ | refine blockQ_hit ?_ | refine qb4 ?_ | refine qe ?_ | refine loopQ_e ?_ | refine loopQ_r ?_
          all_goals clear E
          refine loopQ_n (k + 1) (by omega) (by omega) (by rw [e1]; exact qs)
        · have h1 : ¬ (k:Int) < (armsOf i).length := by omega
          have E := @h1
          repeat' first | refine R_nil ?_ | ((with_reducible apply tagG); first | refine qg1 ?_ | refine qg2 ?_ | refine qg3 ?_ | refine qg4 ?_ | refine qg5 ?_ | refine qg6 (fun hb => ?_) (fun hb => ?_)) | ((with_reducible apply tagS); first | ((with_reducible apply tagD); first | refine qd1 ?_ | refine qd3 ?_) | ((with_reducible apply tagR); first | refine qr1 ?_ | refine qr3 ?_)) | ((with_reducible apply tagN); first | ((with_reducible apply tagD); first | refine qd2 ?_ | refine qd4 ?_) | ((with_reducible apply tagR); first | refine qr2 ?_ | refine qr4 ?_)) | ((with_reducible apply tagW); first | refine qw1 ?_ | refine qw2 ?_ | refine qw3 ?_ | refine qw4 ?_ | refine qw5 ?_ | refine qw6 (fun hb => ?_) (fun hb => ?_) | refine qw7 ?_ | refine qw8 ?_ | refine qw9 ?_ | refine qw0 ?_) | refine thenQ_n ?_ | refine thenQ_e ?_ | refine thenQ_r ?_ | refine blockQ_n ?_ | refine blockQ_r ?_ | refine blockQ_hit ?_ | refine qb4 ?_ | refine qe ?_ | refine loopQ_e ?_ | refine loopQ_r ?_
          all_goals clear E
          have e : (armsOf i).take k = armsOf i := List.take_of_length_le (by omega)
          exact ret_own rfl rfl rfl (by rw [hE]; simp [e]) (by rw [hE]; simp [e])
  · refine C_intro T_ok (rs := [.tmp 4]) Try.func68 rfl rfl rfl (Nat.le_of_ble_eq_true rfl) (Nat.le_of_ble_eq_true rfl) rfl ⟨rfl, rfl⟩ rfl fun cx hn => ?_
    have hn : cx.n = 77 := hn
    have Y := And.intro T3 (And.intro T23 (And.intro T60 (And.intro T95 (T98))))
    simp only [enumA, enumO, Nat.reduceAdd]
    have E := And.intro @h11 (@h16)
    repeat' first | refine R_nil ?_ | ((with_reducible apply tagG); first | refine qg1 ?_ | refine qg2 ?_ | refine qg3 ?_ | refine qg4 ?_ | refine qg5 ?_ | refine qg6 (fun hb => ?_) (fun hb => ?_)) | ((with_reducible apply tagS); first | ((with_reducible apply tagD); first | refine qd1 ?_ | refine qd3 ?_) | ((with_reducible apply tagR); first | refine qr1 ?_ | refine qr3 ?_)) | ((with_reducible apply tagN); first | ((with_reducible apply tagD); first | refine qd2 ?_ | refine qd4 ?_) | ((with_reducible apply tagR); first | refine qr2 ?_ | refine qr4 ?_)) | ((with_reducible apply tagW); first | refine qw1 ?_ | refine qw2 ?_ | refine qw3 ?_ | refine qw4 ?_ | refine qw5 ?_ | refine qw6 (fun hb => ?_) (fun hb => ?_) | refine qw7 ?_ | refine qw8 ?_ | refine qw9 ?_ | refine qw0 ?_) | refine thenQ_n ?_ | refine thenQ_e ?_ | refine thenQ_r ?_ | refine blockQ_n ?_ | refine blockQ_r ?_ | refine blockQ_hit ?_ | refine qb4 ?_ | refine qe ?_ | refine loopQ_e ?_ | refine loopQ_r ?_
    all_goals clear E
    all_goals first
      | exact ret_own rfl rfl rfl (by simp_all [nextOf]) (by simp_all [nextOf, ints])
      | (rw [show nextOf i pc = [] by simp_all [nextOf]]; exact ret_nil 1 rfl)
end Go.Pw
