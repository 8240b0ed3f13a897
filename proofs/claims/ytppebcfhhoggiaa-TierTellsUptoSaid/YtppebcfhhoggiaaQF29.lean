/- Functions of the reference: where it goes on. -/
import Derived.Test.YtppebcfhhoggiaaQF28
import Derived.Test.YtppebcfhhoggiaaQF6
set_option linter.unusedVariables false
set_option linter.unusedSimpArgs false
namespace Go.Pw
open Go Go.Proofs
attribute [local irreducible] runL W endD thenQ blockQ loopQ
set_option maxRecDepth 8000
set_option maxHeartbeats 16000000
def readsStr (op : Int) : ByteArray :=
  if op = 2 ∨ op = 20 ∨ op = 21 then ⟨#[98]⟩
  else if op = 5 ∨ op = 6 ∨ op = 7 ∨ op = 8 ∨ op = 10 ∨ op = 12 ∨ op = 15 then ⟨#[42]⟩
  else if op = 9 then ⟨#[98, 42]⟩
  else if op = 13 ∨ op = 22 then ⟨#[97, 98]⟩
  else if op = 4 ∨ op = 11 ∨ op = 18 ∨ op = 19 ∨ op = 23 ∨ op = 24 ∨ op = 25 ∨ op = 26 ∨ op = 27 then ⟨#[97]⟩
  else ByteArray.empty
def endsB (op : Int) : Bool := op == 15 || op == 17 || op == 18 || op == 25
def shapeAV (op : Int) : AV := .agg [dStr (readsStr op), dBool (writes op), dBool (endsB op)]
theorem C56 (op : Int) : C Try.prog 56 [dInt op] [] (.agg [dStr (readsStr op), dBool (writes op), dBool (endsB op)]) [] [] := by
  refine C_intro T_ok (rs := [.cell 2 108]) Try.func56 rfl rfl rfl (Nat.le_of_ble_eq_true rfl) (Nat.le_of_ble_eq_true rfl) rfl ⟨rfl, rfl⟩ rfl fun cx hn => ?_
  have hn : cx.n = 48 := hn
  have Y := And.intro T3 (And.intro T4 (And.intro T9 (T108)))
  simp only [enumA, enumO, Nat.reduceAdd]
  repeat' first | refine R_nil ?_ | ((with_reducible apply tagG); first | refine qg1 ?_ | refine qg2 ?_ | refine qg3 ?_ | refine qg4 ?_ | refine qg5 ?_ | refine qg6 (fun hb => ?_) (fun hb => ?_)) | ((with_reducible apply tagS); first | ((with_reducible apply tagD); first | refine qd1 ?_ | refine qd3 ?_) | ((with_reducible apply tagR); first | refine qr1 ?_ | refine qr3 ?_)) | ((with_reducible apply tagN); first | ((with_reducible apply tagD); first | refine qd2 ?_ | refine qd4 ?_) | ((with_reducible apply tagR); first | refine qr2 ?_ | refine qr4 ?_)) | ((with_reducible apply tagW); first | refine qw1 ?_ | refine qw2 ?_ | refine qw3 ?_ | refine qw4 ?_ | refine qw5 ?_ | refine qw6 (fun hb => ?_) (fun hb => ?_) | refine qw7 ?_ | refine qw8 ?_ | refine qw9 ?_ | refine qw0 ?_) | refine thenQ_n ?_ | refine thenQ_e ?_ | refine thenQ_r ?_ | refine blockQ_n ?_ | refine blockQ_r ?_ | refine blockQ_hit ?_ | refine qb4 ?_ | refine qe ?_ | refine loopQ_e ?_ | refine loopQ_r ?_
  all_goals (refine ret_a (r0 := .agg [dStr _, dBool _, dBool _]) ?_; simp_all [readsStr, writes, endsB])
theorem C54 (i : Ins) (pc : Int) (hs : Sm i.args) (h0 : 0 ≤ pc) (hp : pc ≤ 1099511627776) : C Try.prog 54 [i.av, dInt pc] [] (.d (.sl (ints (nextOf i pc)))) [] [] := by
  have hal := armsOf_len i
  by_cases h11 : i.op = 11
  · have hE : nextOf i pc = [] ++ (armsOf i).map (·.pc) := by simp [nextOf, h11]
    have e11 : decide (i.op = 11) = true := by simp [h11]
    have ne : ∀ k : Int, k ≠ 11 → decide (i.op = k) = false := fun k hk => by simp [h11]; omega
    have eb : endsB i.op = false := by simp [endsB, h11]
    refine C_intro T_ok (rs := [.tmp 4]) Try.func54 rfl rfl rfl (Nat.le_of_ble_eq_true rfl) (Nat.le_of_ble_eq_true rfl) rfl ⟨rfl, rfl⟩ rfl fun cx hn => ?_
    have hn : cx.n = 85 := hn
    have Y := And.intro T3 (And.intro T4 (And.intro T9 (And.intro T23 (And.intro T60 (And.intro T95 (And.intro T98 (T108)))))))
    simp only [enumA, enumO, Nat.reduceAdd]
    have E := And.intro @e11 (And.intro @ne (@eb))
    repeat' first | refine R_nil ?_ | ((with_reducible apply tagG); first | refine qg1 ?_ | refine qg2 ?_ | refine qg3 ?_ | refine qg4 ?_ | refine qg5 ?_ | refine qg6 (fun hb => ?_) (fun hb => ?_)) | ((with_reducible apply tagK); first | ((with_reducible apply tagD); first | refine qd5 (C48 i hs) ?_ | refine qd5 (C56 i.op) ?_) | ((with_reducible apply tagR); first | refine qr5 (C48 i hs) ?_ | refine qr5 (C56 i.op) ?_)) | ((with_reducible apply tagS); first | ((with_reducible apply tagD); first | refine qd1 ?_ | refine qd3 ?_) | ((with_reducible apply tagR); first | refine qr1 ?_ | refine qr3 ?_)) | ((with_reducible apply tagN); first | ((with_reducible apply tagD); first | refine qd2 ?_ | refine qd4 ?_) | ((with_reducible apply tagR); first | refine qr2 ?_ | refine qr4 ?_)) | ((with_reducible apply tagW); first | refine qw1 ?_ | refine qw2 ?_ | refine qw3 ?_ | refine qw4 ?_ | refine qw5 ?_ | refine qw6 (fun hb => ?_) (fun hb => ?_) | refine qw7 ?_ | refine qw8 ?_ | refine qw9 ?_ | refine qw0 ?_) | refine thenQ_n ?_ | refine thenQ_e ?_ | refine thenQ_r ?_ | refine blockQ_n ?_ | refine blockQ_r ?_ | refine blockQ_hit ?_ | refine qb4 ?_ | refine qe ?_ | refine loopQ_e ?_ | refine loopQ_r ?_
    all_goals clear E
    refine W_ghost (G_adopt 5 79 1 rfl rfl (.inr (by decide))) ?_
    refine W_loopQ (fun k : Nat => [(71, dInt k), (70, dInt (armsOf i).length), (69, .d (.sl (armsD (armsOf i)))), (5, .ref 79 0 ((([] : List Int)) ++ ((armsOf i).take k).map (·.pc)).length)]) (fun k => [(79, some (.row 1 (ints ((([] : List Int)) ++ ((armsOf i).take k).map (·.pc)))))]) (fun k => (armsOf i).length - k) (fun k => k ≤ (armsOf i).length) 0 (by omega) qs fun k hk => ?_
    by_cases h : k < (armsOf i).length
    · obtain ⟨x, hx⟩ := get_ex h
      have h1 : (k:Int) < (armsOf i).length := by omega
      have e1 : (([] : List Int)) ++ ((armsOf i).take (k + 1)).map (·.pc) = ((([] : List Int)) ++ ((armsOf i).take k).map (·.pc)) ++ [x.pc] := by
        rw [List.take_add_one, hx]; simp
      have hA : ((([] : List Int)) ++ ((armsOf i).take k).map (·.pc)).length ≤ 1 + (armsOf i).length := by simp; omega
      generalize (([] : List Int)) ++ ((armsOf i).take k).map (·.pc) = A at *
      have d1 : (ints A).take A.length = ints A := List.take_of_length_le (by rw [ints_len]; omega)
      have d2 : ints A ++ [[DI x.pc]] = ints (A ++ [x.pc]) := by simp [ints]
      have E := And.intro @h1 (And.intro (armsD_get hx) (And.intro @d1 (@d2)))
      repeat' first | refine R_nil ?_ | ((with_reducible apply tagG); first | refine qg1 ?_ | refine qg2 ?_ | refine qg3 ?_ | refine qg4 ?_ | refine qg5 ?_ | refine qg6 (fun hb => ?_) (fun hb => ?_)) | ((with_reducible apply tagS); first | ((with_reducible apply tagD); first | refine qd1 ?_ | refine qd3 ?_) | ((with_reducible apply tagR); first | refine qr1 ?_ | refine qr3 ?_)) | ((with_reducible apply tagN); first | ((with_reducible apply tagD); first | refine qd2 ?_ | refine qd4 ?_) | ((with_reducible apply tagR); first | refine qr2 ?_ | refine qr4 ?_)) | ((with_reducible apply tagW); first | refine qw1 ?_ | refine qw2 ?_ | refine qw3 ?_ | refine qw4 ?_ | refine qw5 ?_ | refine qw6 (fun hb => ?_) (fun hb => ?_) | refine qw7 ?_ | refine qw8 ?_ | refine qw9 ?_ | refine qw0 ?_) | refine thenQ_n ?_ | refine thenQ_e ?_ | refine thenQ_r ?_ | refine blockQ_n ?_ | refine blockQ_r ?_ | refine blockQ_hit ?_ | refine qb4 ?_ | refine qe ?_ | refine loopQ_e ?_ | refine loopQ_r ?_
      all_goals clear E
      refine loopQ_n (k + 1) (by omega) (by omega) (by rw [e1]; exact qs)
    · have h1 : ¬ (k:Int) < (armsOf i).length := by omega
      have E := @h1
      repeat' first | refine R_nil ?_ | ((with_reducible apply tagG); first | refine qg1 ?_ | refine qg2 ?_ | refine qg3 ?_ | refine qg4 ?_ | refine qg5 ?_ | refine qg6 (fun hb => ?_) (fun hb => ?_)) | ((with_reducible apply tagS); first | ((with_reducible apply tagD); first | refine qd1 ?_ | refine qd3 ?_) | ((with_reducible apply tagR); first | refine qr1 ?_ | refine qr3 ?_)) | ((with_reducible apply tagN); first | ((with_reducible apply tagD); first | refine qd2 ?_ | refine qd4 ?_) | ((with_reducible apply tagR); first | refine qr2 ?_ | refine qr4 ?_)) | ((with_reducible apply tagW); first | refine qw1 ?_ | refine qw2 ?_ | refine qw3 ?_ | refine qw4 ?_ | refine qw5 ?_ | refine qw6 (fun hb => ?_) (fun hb => ?_) | refine qw7 ?_ | refine qw8 ?_ | refine qw9 ?_ | refine qw0 ?_) | refine thenQ_n ?_ | refine thenQ_e ?_ | refine thenQ_r ?_ | refine blockQ_n ?_ | refine blockQ_r ?_ | refine blockQ_hit ?_ | refine qb4 ?_ | refine qe ?_ | refine loopQ_e ?_ | refine loopQ_r ?_
      all_goals clear E
      have e : (armsOf i).take k = armsOf i := List.take_of_length_le (by omega)
      exact ret_ref rfl rfl rfl (by rw [List.drop_zero, hE, e]; exact congrArg D.sl (take_all _ _ (Nat.le_refl _)))
  by_cases h16 : i.op = 16
  · have e16 : decide (i.op = 16) = true := by simp [h16]
    have ne : ∀ k : Int, k ≠ 16 → decide (i.op = k) = false := fun k hk => by simp [h16]; omega
    have eb : endsB i.op = false := by simp [endsB, h16]
    by_cases hl0 : i.args.length = 0
    · have hl : i.args = [] := List.eq_nil_of_length_eq_zero hl0
      have hE : nextOf i pc = [] ++ (armsOf i).map (·.pc) := by simp [nextOf, h16, hl]
      refine C_intro T_ok (rs := [.tmp 4]) Try.func54 rfl rfl rfl (Nat.le_of_ble_eq_true rfl) (Nat.le_of_ble_eq_true rfl) rfl ⟨rfl, rfl⟩ rfl fun cx hn => ?_
      have hn : cx.n = 85 := hn
      have Y := And.intro T3 (And.intro T4 (And.intro T9 (And.intro T23 (And.intro T60 (And.intro T95 (And.intro T98 (T108)))))))
      simp only [enumA, enumO, Nat.reduceAdd]
      have E := And.intro @e16 (And.intro @ne (And.intro @eb (@hl0)))
      repeat' first | refine R_nil ?_ | ((with_reducible apply tagG); first | refine qg1 ?_ | refine qg2 ?_ | refine qg3 ?_ | refine qg4 ?_ | refine qg5 ?_ | refine qg6 (fun hb => ?_) (fun hb => ?_)) | ((with_reducible apply tagK); first | ((with_reducible apply tagD); first | refine qd5 (C48 i hs) ?_ | refine qd5 (C56 i.op) ?_) | ((with_reducible apply tagR); first | refine qr5 (C48 i hs) ?_ | refine qr5 (C56 i.op) ?_)) | ((with_reducible apply tagS); first | ((with_reducible apply tagD); first | refine qd1 ?_ | refine qd3 ?_) | ((with_reducible apply tagR); first | refine qr1 ?_ | refine qr3 ?_)) | ((with_reducible apply tagN); first | ((with_reducible apply tagD); first | refine qd2 ?_ | refine qd4 ?_) | ((with_reducible apply tagR); first | refine qr2 ?_ | refine qr4 ?_)) | ((with_reducible apply tagW); first | refine qw1 ?_ | refine qw2 ?_ | refine qw3 ?_ | refine qw4 ?_ | refine qw5 ?_ | refine qw6 (fun hb => ?_) (fun hb => ?_) | refine qw7 ?_ | refine qw8 ?_ | refine qw9 ?_ | refine qw0 ?_) | refine thenQ_n ?_ | refine thenQ_e ?_ | refine thenQ_r ?_ | refine blockQ_n ?_ | refine blockQ_r ?_ | refine blockQ_hit ?_ | refine qb4 ?_ | refine qe ?_ | refine loopQ_e ?_ | refine loopQ_r ?_
      all_goals clear E
      refine W_ghost (G_adopt 5 79 1 rfl rfl (.inr (by decide))) ?_
      refine W_loopQ (fun k : Nat => [(71, dInt k), (70, dInt (armsOf i).length), (69, .d (.sl (armsD (armsOf i)))), (5, .ref 79 0 ((([] : List Int)) ++ ((armsOf i).take k).map (·.pc)).length)]) (fun k => [(79, some (.row 1 (ints ((([] : List Int)) ++ ((armsOf i).take k).map (·.pc)))))]) (fun k => (armsOf i).length - k) (fun k => k ≤ (armsOf i).length) 0 (by omega) qs fun k hk => ?_
      by_cases h : k < (armsOf i).length
      · obtain ⟨x, hx⟩ := get_ex h
        have h1 : (k:Int) < (armsOf i).length := by omega
        have e1 : (([] : List Int)) ++ ((armsOf i).take (k + 1)).map (·.pc) = ((([] : List Int)) ++ ((armsOf i).take k).map (·.pc)) ++ [x.pc] := by
          rw [List.take_add_one, hx]; simp
        have hA : ((([] : List Int)) ++ ((armsOf i).take k).map (·.pc)).length ≤ 1 + (armsOf i).length := by simp; omega
        generalize (([] : List Int)) ++ ((armsOf i).take k).map (·.pc) = A at *
        have d1 : (ints A).take A.length = ints A := List.take_of_length_le (by rw [ints_len]; omega)
        have d2 : ints A ++ [[DI x.pc]] = ints (A ++ [x.pc]) := by simp [ints]
        have E := And.intro @h1 (And.intro (armsD_get hx) (And.intro @d1 (@d2)))
        repeat' first | refine R_nil ?_ | ((with_reducible apply tagG); first | refine qg1 ?_ | refine qg2 ?_ | refine qg3 ?_ | refine qg4 ?_ | refine qg5 ?_ | refine qg6 (fun hb => ?_) (fun hb => ?_)) | ((with_reducible apply tagS); first | ((with_reducible apply tagD); first | refine qd1 ?_ | refine qd3 ?_) | ((with_reducible apply tagR); first | refine qr1 ?_ | refine qr3 ?_)) | ((with_reducible apply tagN); first | ((with_reducible apply tagD); first | refine qd2 ?_ | refine qd4 ?_) | ((with_reducible apply tagR); first | refine qr2 ?_ | refine qr4 ?_)) | ((with_reducible apply tagW); first | refine qw1 ?_ | refine qw2 ?_ | refine qw3 ?_ | refine qw4 ?_ | refine qw5 ?_ | refine qw6 (fun hb => ?_) (fun hb => ?_) | refine qw7 ?_ | refine qw8 ?_ | refine qw9 ?_ | refine qw0 ?_) | refine thenQ_n ?_ | refine thenQ_e ?_ | refine thenQ_r ?_ | refine blockQ_n ?_ | refine blockQ_r ?_ | refine blockQ_hit ?_ | refine qb4 ?_ | refine qe ?_ | refine loopQ_e ?_ | refine loopQ_r ?_
        all_goals clear E
        refine loopQ_n (k + 1) (by omega) (by omega) (by rw [e1]; exact qs)
      · have h1 : ¬ (k:Int) < (armsOf i).length := by omega
        have E := @h1
        repeat' first | refine R_nil ?_ | ((with_reducible apply tagG); first | refine qg1 ?_ | refine qg2 ?_ | refine qg3 ?_ | refine qg4 ?_ | refine qg5 ?_ | refine qg6 (fun hb => ?_) (fun hb => ?_)) | ((with_reducible apply tagS); first | ((with_reducible apply tagD); first | refine qd1 ?_ | refine qd3 ?_) | ((with_reducible apply tagR); first | refine qr1 ?_ | refine qr3 ?_)) | ((with_reducible apply tagN); first | ((with_reducible apply tagD); first | refine qd2 ?_ | refine qd4 ?_) | ((with_reducible apply tagR); first | refine qr2 ?_ | refine qr4 ?_)) | ((with_reducible apply tagW); first | refine qw1 ?_ | refine qw2 ?_ | refine qw3 ?_ | refine qw4 ?_ | refine qw5 ?_ | refine qw6 (fun hb => ?_) (fun hb => ?_) | refine qw7 ?_ | refine qw8 ?_ | refine qw9 ?_ | refine qw0 ?_) | refine thenQ_n ?_ | refine thenQ_e ?_ | refine thenQ_r ?_ | refine blockQ_n ?_ | refine blockQ_r ?_ | refine blockQ_hit ?_ | refine qb4 ?_ | refine qe ?_ | refine loopQ_e ?_ | refine loopQ_r ?_
        all_goals clear E
        have e : (armsOf i).take k = armsOf i := List.take_of_length_le (by omega)
        exact ret_ref rfl rfl rfl (by rw [List.drop_zero, hE, e]; exact congrArg D.sl (take_all _ _ (Nat.le_refl _)))
    · obtain ⟨y, hy⟩ := get_ex (show 0 < i.args.length by omega)
      have hl1 : (0:Int) < (i.args.length : Int) := by omega
      by_cases hy0 : 0 ≤ y
      · have hE : nextOf i pc = [y] ++ (armsOf i).map (·.pc) := by
          cases hl : i.args with
          | nil => rw [hl] at hl0; simp at hl0
          | cons z l => rw [hl] at hy; simp at hy; subst hy; simp [nextOf, h16, hl, hy0]
        have hy1 : (-1 : Int) < y := by omega
        refine C_intro T_ok (rs := [.tmp 4]) Try.func54 rfl rfl rfl (Nat.le_of_ble_eq_true rfl) (Nat.le_of_ble_eq_true rfl) rfl ⟨rfl, rfl⟩ rfl fun cx hn => ?_
        have hn : cx.n = 85 := hn
        have Y := And.intro T3 (And.intro T4 (And.intro T9 (And.intro T23 (And.intro T60 (And.intro T95 (And.intro T98 (T108)))))))
        simp only [enumA, enumO, Nat.reduceAdd]
        have E := And.intro @e16 (And.intro @ne (And.intro @eb (And.intro @hl1 (And.intro @hy1 ((ints_get hy))))))
        repeat' first | refine R_nil ?_ | ((with_reducible apply tagG); first | refine qg1 ?_ | refine qg2 ?_ | refine qg3 ?_ | refine qg4 ?_ | refine qg5 ?_ | refine qg6 (fun hb => ?_) (fun hb => ?_)) | ((with_reducible apply tagK); first | ((with_reducible apply tagD); first | refine qd5 (C48 i hs) ?_ | refine qd5 (C56 i.op) ?_) | ((with_reducible apply tagR); first | refine qr5 (C48 i hs) ?_ | refine qr5 (C56 i.op) ?_)) | ((with_reducible apply tagS); first | ((with_reducible apply tagD); first | refine qd1 ?_ | refine qd3 ?_) | ((with_reducible apply tagR); first | refine qr1 ?_ | refine qr3 ?_)) | ((with_reducible apply tagN); first | ((with_reducible apply tagD); first | refine qd2 ?_ | refine qd4 ?_) | ((with_reducible apply tagR); first | refine qr2 ?_ | refine qr4 ?_)) | ((with_reducible apply tagW); first | refine qw1 ?_ | refine qw2 ?_ | refine qw3 ?_ | refine qw4 ?_ | refine qw5 ?_ | refine qw6 (fun hb => ?_) (fun hb => ?_) | refine qw7 ?_ | refine qw8 ?_ | refine qw9 ?_ | refine qw0 ?_) | refine thenQ_n ?_ | refine thenQ_e ?_ | refine thenQ_r ?_ | refine blockQ_n ?_ | refine blockQ_r ?_ | refine blockQ_hit ?_ | refine qb4 ?_ | refine qe ?_ | refine loopQ_e ?_ | refine loopQ_r ?_
        all_goals clear E
        refine W_loopQ (fun k : Nat => [(71, dInt k), (70, dInt (armsOf i).length), (69, .d (.sl (armsD (armsOf i)))), (5, .ref 67 0 (([y]) ++ ((armsOf i).take k).map (·.pc)).length)]) (fun k => [(67, some (.row 1 (ints (([y]) ++ ((armsOf i).take k).map (·.pc)))))]) (fun k => (armsOf i).length - k) (fun k => k ≤ (armsOf i).length) 0 (by omega) qs fun k hk => ?_
        by_cases h : k < (armsOf i).length
        · obtain ⟨x, hx⟩ := get_ex h
          have h1 : (k:Int) < (armsOf i).length := by omega
          have e1 : ([y]) ++ ((armsOf i).take (k + 1)).map (·.pc) = (([y]) ++ ((armsOf i).take k).map (·.pc)) ++ [x.pc] := by
            rw [List.take_add_one, hx]; simp
          have hA : (([y]) ++ ((armsOf i).take k).map (·.pc)).length ≤ 1 + (armsOf i).length := by simp; omega
          generalize ([y]) ++ ((armsOf i).take k).map (·.pc) = A at *
          have d1 : (ints A).take A.length = ints A := List.take_of_length_le (by rw [ints_len]; omega)
          have d2 : ints A ++ [[DI x.pc]] = ints (A ++ [x.pc]) := by simp [ints]
          have E := And.intro @h1 (And.intro (armsD_get hx) (And.intro @d1 (@d2)))
          repeat' first | refine R_nil ?_ | ((with_reducible apply tagG); first | refine qg1 ?_ | refine qg2 ?_ | refine qg3 ?_ | refine qg4 ?_ | refine qg5 ?_ | refine qg6 (fun hb => ?_) (fun hb => ?_)) | ((with_reducible apply tagS); first | ((with_reducible apply tagD); first | refine qd1 ?_ | refine qd3 ?_) | ((with_reducible apply tagR); first | refine qr1 ?_ | refine qr3 ?_)) | ((with_reducible apply tagN); first | ((with_reducible apply tagD); first | refine qd2 ?_ | refine qd4 ?_) | ((with_reducible apply tagR); first | refine qr2 ?_ | refine qr4 ?_)) | ((with_reducible apply tagW); first | refine qw1 ?_ | refine qw2 ?_ | refine qw3 ?_ | refine qw4 ?_ | refine qw5 ?_ | refine qw6 (fun hb => ?_) (fun hb => ?_) | refine qw7 ?_ | refine qw8 ?_ | refine qw9 ?_ | refine qw0 ?_) | refine thenQ_n ?_ | refine thenQ_e ?_ | refine thenQ_r ?_ | refine blockQ_n ?_ | refine blockQ_r ?_ | refine blockQ_hit ?_ | refine qb4 ?_ | refine qe ?_ | refine loopQ_e ?_ | refine loopQ_r ?_
          all_goals clear E
          refine loopQ_n (k + 1) (by omega) (by omega) (by rw [e1]; exact qs)
        · have h1 : ¬ (k:Int) < (armsOf i).length := by omega
          have E := @h1
          repeat' first | refine R_nil ?_ | ((with_reducible apply tagG); first | refine qg1 ?_ | refine qg2 ?_ | refine qg3 ?_ | refine qg4 ?_ | refine qg5 ?_ | refine qg6 (fun hb => ?_) (fun hb => ?_)) | ((with_reducible apply tagS); first | ((with_reducible apply tagD); first | refine qd1 ?_ | refine qd3 ?_) | ((with_reducible apply tagR); first | refine qr1 ?_ | refine qr3 ?_)) | ((with_reducible apply tagN); first | ((with_reducible apply tagD); first | refine qd2 ?_ | refine qd4 ?_) | ((with_reducible apply tagR); first | refine qr2 ?_ | refine qr4 ?_)) | ((with_reducible apply tagW); first | refine qw1 ?_ | refine qw2 ?_ | refine qw3 ?_ | refine qw4 ?_ | refine qw5 ?_ | refine qw6 (fun hb => ?_) (fun hb => ?_) | refine qw7 ?_ | refine qw8 ?_ | refine qw9 ?_ | refine qw0 ?_) | refine thenQ_n ?_ | refine thenQ_e ?_ | refine thenQ_r ?_ | refine blockQ_n ?_ | refine blockQ_r ?_ | refine blockQ_hit ?_ | refine qb4 ?_ | refine qe ?_ | refine loopQ_e ?_ | refine loopQ_r ?_
          all_goals clear E
          have e : (armsOf i).take k = armsOf i := List.take_of_length_le (by omega)
          exact ret_ref rfl rfl rfl (by rw [List.drop_zero, hE, e]; exact congrArg D.sl (take_all _ _ (Nat.le_refl _)))
      · have hE : nextOf i pc = [] ++ (armsOf i).map (·.pc) := by
          cases hl : i.args with
          | nil => rw [hl] at hl0; simp at hl0
          | cons z l => rw [hl] at hy; simp at hy; subst hy; simp [nextOf, h16, hl, hy0]
        have hy1 : ¬ (-1 : Int) < y := by omega
        refine C_intro T_ok (rs := [.tmp 4]) Try.func54 rfl rfl rfl (Nat.le_of_ble_eq_true rfl) (Nat.le_of_ble_eq_true rfl) rfl ⟨rfl, rfl⟩ rfl fun cx hn => ?_
        have hn : cx.n = 85 := hn
        have Y := And.intro T3 (And.intro T4 (And.intro T9 (And.intro T23 (And.intro T60 (And.intro T95 (And.intro T98 (T108)))))))
        simp only [enumA, enumO, Nat.reduceAdd]
        have E := And.intro @e16 (And.intro @ne (And.intro @eb (And.intro @hl1 (And.intro @hy1 ((ints_get hy))))))
        repeat' first | refine R_nil ?_ | ((with_reducible apply tagG); first | refine qg1 ?_ | refine qg2 ?_ | refine qg3 ?_ | refine qg4 ?_ | refine qg5 ?_ | refine qg6 (fun hb => ?_) (fun hb => ?_)) | ((with_reducible apply tagK); first | ((with_reducible apply tagD); first | refine qd5 (C48 i hs) ?_ | refine qd5 (C56 i.op) ?_) | ((with_reducible apply tagR); first | refine qr5 (C48 i hs) ?_ | refine qr5 (C56 i.op) ?_)) | ((with_reducible apply tagS); first | ((with_reducible apply tagD); first | refine qd1 ?_ | refine qd3 ?_) | ((with_reducible apply tagR); first | refine qr1 ?_ | refine qr3 ?_)) | ((with_reducible apply tagN); first | ((with_reducible apply tagD); first | refine qd2 ?_ | refine qd4 ?_) | ((with_reducible apply tagR); first | refine qr2 ?_ | refine qr4 ?_)) | ((with_reducible apply tagW); first | refine qw1 ?_ | refine qw2 ?_ | refine qw3 ?_ | refine qw4 ?_ | refine qw5 ?_ | refine qw6 (fun hb => ?_) (fun hb => ?_) | refine qw7 ?_ | refine qw8 ?_ | refine qw9 ?_ | refine qw0 ?_) | refine thenQ_n ?_ | refine thenQ_e ?_ | refine thenQ_r ?_ | refine blockQ_n ?_ | refine blockQ_r ?_ | refine blockQ_hit ?_ | refine qb4 ?_ | refine qe ?_ | refine loopQ_e ?_ | refine loopQ_r ?_
        all_goals clear E
        refine W_ghost (G_adopt 5 79 1 rfl rfl (.inr (by decide))) ?_
        refine W_loopQ (fun k : Nat => [(71, dInt k), (70, dInt (armsOf i).length), (69, .d (.sl (armsD (armsOf i)))), (5, .ref 79 0 ((([] : List Int)) ++ ((armsOf i).take k).map (·.pc)).length)]) (fun k => [(79, some (.row 1 (ints ((([] : List Int)) ++ ((armsOf i).take k).map (·.pc)))))]) (fun k => (armsOf i).length - k) (fun k => k ≤ (armsOf i).length) 0 (by omega) qs fun k hk => ?_
        by_cases h : k < (armsOf i).length
        · obtain ⟨x, hx⟩ := get_ex h
          have h1 : (k:Int) < (armsOf i).length := by omega
          have e1 : (([] : List Int)) ++ ((armsOf i).take (k + 1)).map (·.pc) = ((([] : List Int)) ++ ((armsOf i).take k).map (·.pc)) ++ [x.pc] := by
            rw [List.take_add_one, hx]; simp
          have hA : ((([] : List Int)) ++ ((armsOf i).take k).map (·.pc)).length ≤ 1 + (armsOf i).length := by simp; omega
          generalize (([] : List Int)) ++ ((armsOf i).take k).map (·.pc) = A at *
          have d1 : (ints A).take A.length = ints A := List.take_of_length_le (by rw [ints_len]; omega)
          have d2 : ints A ++ [[DI x.pc]] = ints (A ++ [x.pc]) := by simp [ints]
          have E := And.intro @h1 (And.intro (armsD_get hx) (And.intro @d1 (@d2)))
          repeat' first | refine R_nil ?_ | ((with_reducible apply tagG); first | refine qg1 ?_ | refine qg2 ?_ | refine qg3 ?_ | refine qg4 ?_ | refine qg5 ?_ | refine qg6 (fun hb => ?_) (fun hb => ?_)) | ((with_reducible apply tagS); first | ((with_reducible apply tagD); first | refine qd1 ?_ | refine qd3 ?_) | ((with_reducible apply tagR); first | refine qr1 ?_ | refine qr3 ?_)) | ((with_reducible apply tagN); first | ((with_reducible apply tagD); first | refine qd2 ?_ | refine qd4 ?_) | ((with_reducible apply tagR); first | refine qr2 ?_ | refine qr4 ?_)) | ((with_reducible apply tagW); first | refine qw1 ?_ | refine qw2 ?_ | refine qw3 ?_ | refine qw4 ?_ | refine qw5 ?_ | refine qw6 (fun hb => ?_) (fun hb => ?_) | refine qw7 ?_ | refine qw8 ?_ | refine qw9 ?_ | refine qw0 ?_) | refine thenQ_n ?_ | refine thenQ_e ?_ | refine thenQ_r ?_ | refine blockQ_n ?_ | refine blockQ_r ?_ | refine blockQ_hit ?_ | refine qb4 ?_ | refine qe ?_ | refine loopQ_e ?_ | refine loopQ_r ?_
          all_goals clear E
          refine loopQ_n (k + 1) (by omega) (by omega) (by rw [e1]; exact qs)
        · have h1 : ¬ (k:Int) < (armsOf i).length := by omega
          have E := @h1
          repeat' first | refine R_nil ?_ | ((with_reducible apply tagG); first | refine qg1 ?_ | refine qg2 ?_ | refine qg3 ?_ | refine qg4 ?_ | refine qg5 ?_ | refine qg6 (fun hb => ?_) (fun hb => ?_)) | ((with_reducible apply tagS); first | ((with_reducible apply tagD); first | refine qd1 ?_ | refine qd3 ?_) | ((with_reducible apply tagR); first | refine qr1 ?_ | refine qr3 ?_)) | ((with_reducible apply tagN); first | ((with_reducible apply tagD); first | refine qd2 ?_ | refine qd4 ?_) | ((with_reducible apply tagR); first | refine qr2 ?_ | refine qr4 ?_)) | ((with_reducible apply tagW); first | refine qw1 ?_ | refine qw2 ?_ | refine qw3 ?_ | refine qw4 ?_ | refine qw5 ?_ | refine qw6 (fun hb => ?_) (fun hb => ?_) | refine qw7 ?_ | refine qw8 ?_ | refine qw9 ?_ | refine qw0 ?_) | refine thenQ_n ?_ | refine thenQ_e ?_ | refine thenQ_r ?_ | refine blockQ_n ?_ | refine blockQ_r ?_ | refine blockQ_hit ?_ | refine qb4 ?_ | refine qe ?_ | refine loopQ_e ?_ | refine loopQ_r ?_
          all_goals clear E
          have e : (armsOf i).take k = armsOf i := List.take_of_length_le (by omega)
          exact ret_ref rfl rfl rfl (by rw [List.drop_zero, hE, e]; exact congrArg D.sl (take_all _ _ (Nat.le_refl _)))
  have e11 : decide (i.op = 11) = false := by simp [h11]
  have e16 : decide (i.op = 16) = false := by simp [h16]
  by_cases h3 : i.op = 3
  · have e3 : decide (i.op = 3) = true := by simp [h3]
    rw [show nextOf i pc = [i.a] by simp [nextOf, h3]]
    refine C_intro T_ok (rs := [.tmp 4]) Try.func54 rfl rfl rfl (Nat.le_of_ble_eq_true rfl) (Nat.le_of_ble_eq_true rfl) rfl ⟨rfl, rfl⟩ rfl fun cx hn => ?_
    have hn : cx.n = 85 := hn
    have Y := And.intro T3 (And.intro T4 (And.intro T9 (And.intro T23 (And.intro T60 (And.intro T95 (And.intro T98 (T108)))))))
    simp only [enumA, enumO, Nat.reduceAdd]
    have E := @e3
    repeat' first | refine R_nil ?_ | ((with_reducible apply tagG); first | refine qg1 ?_ | refine qg2 ?_ | refine qg3 ?_ | refine qg4 ?_ | refine qg5 ?_ | refine qg6 (fun hb => ?_) (fun hb => ?_)) | ((with_reducible apply tagS); first | ((with_reducible apply tagD); first | refine qd1 ?_ | refine qd3 ?_) | ((with_reducible apply tagR); first | refine qr1 ?_ | refine qr3 ?_)) | ((with_reducible apply tagN); first | ((with_reducible apply tagD); first | refine qd2 ?_ | refine qd4 ?_) | ((with_reducible apply tagR); first | refine qr2 ?_ | refine qr4 ?_)) | ((with_reducible apply tagW); first | refine qw1 ?_ | refine qw2 ?_ | refine qw3 ?_ | refine qw4 ?_ | refine qw5 ?_ | refine qw6 (fun hb => ?_) (fun hb => ?_) | refine qw7 ?_ | refine qw8 ?_ | refine qw9 ?_ | refine qw0 ?_) | refine thenQ_n ?_ | refine thenQ_e ?_ | refine thenQ_r ?_ | refine blockQ_n ?_ | refine blockQ_r ?_ | refine blockQ_hit ?_ | refine qb4 ?_ | refine qe ?_ | refine loopQ_e ?_ | refine loopQ_r ?_
    all_goals clear E
    exact finQ_g (G_d [14]) (ret_a rfl)
  by_cases h4 : i.op = 4
  · have e4 : decide (i.op = 4) = true := by simp [h4]
    have e3 : decide (i.op = 3) = false := by simp [h3]
    rw [show nextOf i pc = [pc + 1, i.b] by simp [nextOf, h4]]
    refine C_intro T_ok (rs := [.tmp 4]) Try.func54 rfl rfl rfl (Nat.le_of_ble_eq_true rfl) (Nat.le_of_ble_eq_true rfl) rfl ⟨rfl, rfl⟩ rfl fun cx hn => ?_
    have hn : cx.n = 85 := hn
    have Y := And.intro T3 (And.intro T4 (And.intro T9 (And.intro T23 (And.intro T60 (And.intro T95 (And.intro T98 (T108)))))))
    simp only [enumA, enumO, Nat.reduceAdd]
    have E := And.intro @e3 (@e4)
    repeat' first | refine R_nil ?_ | ((with_reducible apply tagG); first | refine qg1 ?_ | refine qg2 ?_ | refine qg3 ?_ | refine qg4 ?_ | refine qg5 ?_ | refine qg6 (fun hb => ?_) (fun hb => ?_)) | ((with_reducible apply tagS); first | ((with_reducible apply tagD); first | refine qd1 ?_ | refine qd3 ?_) | ((with_reducible apply tagR); first | refine qr1 ?_ | refine qr3 ?_)) | ((with_reducible apply tagN); first | ((with_reducible apply tagD); first | refine qd2 ?_ | refine qd4 ?_) | ((with_reducible apply tagR); first | refine qr2 ?_ | refine qr4 ?_)) | ((with_reducible apply tagW); first | refine qw1 ?_ | refine qw2 ?_ | refine qw3 ?_ | refine qw4 ?_ | refine qw5 ?_ | refine qw6 (fun hb => ?_) (fun hb => ?_) | refine qw7 ?_ | refine qw8 ?_ | refine qw9 ?_ | refine qw0 ?_) | refine thenQ_n ?_ | refine thenQ_e ?_ | refine thenQ_r ?_ | refine blockQ_n ?_ | refine blockQ_r ?_ | refine blockQ_hit ?_ | refine qb4 ?_ | refine qe ?_ | refine loopQ_e ?_ | refine loopQ_r ?_
    all_goals clear E
    exact finQ_g (G_d [23]) (ret_a rfl)
  have e3 : decide (i.op = 3) = false := by simp [h3]
  have e4 : decide (i.op = 4) = false := by simp [h4]
  by_cases h27 : i.op = 27
  · have e27 : decide (i.op = 27) = true := by simp [h27]
    rw [show nextOf i pc = [pc + 1, i.c] by simp [nextOf, h27]]
    refine C_intro T_ok (rs := [.tmp 4]) Try.func54 rfl rfl rfl (Nat.le_of_ble_eq_true rfl) (Nat.le_of_ble_eq_true rfl) rfl ⟨rfl, rfl⟩ rfl fun cx hn => ?_
    have hn : cx.n = 85 := hn
    have Y := And.intro T3 (And.intro T4 (And.intro T9 (And.intro T23 (And.intro T60 (And.intro T95 (And.intro T98 (T108)))))))
    simp only [enumA, enumO, Nat.reduceAdd]
    have E := And.intro @e3 (And.intro @e4 (@e27))
    repeat' first | refine R_nil ?_ | ((with_reducible apply tagG); first | refine qg1 ?_ | refine qg2 ?_ | refine qg3 ?_ | refine qg4 ?_ | refine qg5 ?_ | refine qg6 (fun hb => ?_) (fun hb => ?_)) | ((with_reducible apply tagS); first | ((with_reducible apply tagD); first | refine qd1 ?_ | refine qd3 ?_) | ((with_reducible apply tagR); first | refine qr1 ?_ | refine qr3 ?_)) | ((with_reducible apply tagN); first | ((with_reducible apply tagD); first | refine qd2 ?_ | refine qd4 ?_) | ((with_reducible apply tagR); first | refine qr2 ?_ | refine qr4 ?_)) | ((with_reducible apply tagW); first | refine qw1 ?_ | refine qw2 ?_ | refine qw3 ?_ | refine qw4 ?_ | refine qw5 ?_ | refine qw6 (fun hb => ?_) (fun hb => ?_) | refine qw7 ?_ | refine qw8 ?_ | refine qw9 ?_ | refine qw0 ?_) | refine thenQ_n ?_ | refine thenQ_e ?_ | refine thenQ_r ?_ | refine blockQ_n ?_ | refine blockQ_r ?_ | refine blockQ_hit ?_ | refine qb4 ?_ | refine qe ?_ | refine loopQ_e ?_ | refine loopQ_r ?_
    all_goals clear E
    exact finQ_g (G_d [32]) (ret_a rfl)
  have e27 : decide (i.op = 27) = false := by simp [h27]
  cases he : endsB i.op with
  | true =>
    rw [show nextOf i pc = [] by simp [endsB] at he; simp [nextOf, h3, h4, h27, h11, h16]; omega]
    refine C_intro T_ok (rs := [.tmp 4]) Try.func54 rfl rfl rfl (Nat.le_of_ble_eq_true rfl) (Nat.le_of_ble_eq_true rfl) rfl ⟨rfl, rfl⟩ rfl fun cx hn => ?_
    have hn : cx.n = 85 := hn
    have Y := And.intro T3 (And.intro T4 (And.intro T9 (And.intro T23 (And.intro T60 (And.intro T95 (And.intro T98 (T108)))))))
    simp only [enumA, enumO, Nat.reduceAdd]
    have E := And.intro @e3 (And.intro @e4 (And.intro @e27 (@he)))
    repeat' first | refine R_nil ?_ | ((with_reducible apply tagG); first | refine qg1 ?_ | refine qg2 ?_ | refine qg3 ?_ | refine qg4 ?_ | refine qg5 ?_ | refine qg6 (fun hb => ?_) (fun hb => ?_)) | ((with_reducible apply tagK); first | ((with_reducible apply tagD); first | refine qd5 (C56 i.op) ?_) | ((with_reducible apply tagR); first | refine qr5 (C56 i.op) ?_)) | ((with_reducible apply tagS); first | ((with_reducible apply tagD); first | refine qd1 ?_ | refine qd3 ?_) | ((with_reducible apply tagR); first | refine qr1 ?_ | refine qr3 ?_)) | ((with_reducible apply tagN); first | ((with_reducible apply tagD); first | refine qd2 ?_ | refine qd4 ?_) | ((with_reducible apply tagR); first | refine qr2 ?_ | refine qr4 ?_)) | ((with_reducible apply tagW); first | refine qw1 ?_ | refine qw2 ?_ | refine qw3 ?_ | refine qw4 ?_ | refine qw5 ?_ | refine qw6 (fun hb => ?_) (fun hb => ?_) | refine qw7 ?_ | refine qw8 ?_ | refine qw9 ?_ | refine qw0 ?_) | refine thenQ_n ?_ | refine thenQ_e ?_ | refine thenQ_r ?_ | refine blockQ_n ?_ | refine blockQ_r ?_ | refine blockQ_hit ?_ | refine qb4 ?_ | refine qe ?_ | refine loopQ_e ?_ | refine loopQ_r ?_
    all_goals clear E
    exact ret_full rfl rfl
  | false =>
    rw [show nextOf i pc = [pc + 1] by simp [endsB] at he; simp [nextOf, h3, h4, h27, h11, h16]; omega]
    refine C_intro T_ok (rs := [.tmp 4]) Try.func54 rfl rfl rfl (Nat.le_of_ble_eq_true rfl) (Nat.le_of_ble_eq_true rfl) rfl ⟨rfl, rfl⟩ rfl fun cx hn => ?_
    have hn : cx.n = 85 := hn
    have Y := And.intro T3 (And.intro T4 (And.intro T9 (And.intro T23 (And.intro T60 (And.intro T95 (And.intro T98 (T108)))))))
    simp only [enumA, enumO, Nat.reduceAdd]
    have E := And.intro @e3 (And.intro @e4 (And.intro @e27 (And.intro @he (And.intro @e11 (@e16)))))
    repeat' first | refine R_nil ?_ | ((with_reducible apply tagG); first | refine qg1 ?_ | refine qg2 ?_ | refine qg3 ?_ | refine qg4 ?_ | refine qg5 ?_ | refine qg6 (fun hb => ?_) (fun hb => ?_)) | ((with_reducible apply tagK); first | ((with_reducible apply tagD); first | refine qd5 (C56 i.op) ?_) | ((with_reducible apply tagR); first | refine qr5 (C56 i.op) ?_)) | ((with_reducible apply tagS); first | ((with_reducible apply tagD); first | refine qd1 ?_ | refine qd3 ?_) | ((with_reducible apply tagR); first | refine qr1 ?_ | refine qr3 ?_)) | ((with_reducible apply tagN); first | ((with_reducible apply tagD); first | refine qd2 ?_ | refine qd4 ?_) | ((with_reducible apply tagR); first | refine qr2 ?_ | refine qr4 ?_)) | ((with_reducible apply tagW); first | refine qw1 ?_ | refine qw2 ?_ | refine qw3 ?_ | refine qw4 ?_ | refine qw5 ?_ | refine qw6 (fun hb => ?_) (fun hb => ?_) | refine qw7 ?_ | refine qw8 ?_ | refine qw9 ?_ | refine qw0 ?_) | refine thenQ_n ?_ | refine thenQ_e ?_ | refine thenQ_r ?_ | refine blockQ_n ?_ | refine blockQ_r ?_ | refine blockQ_hit ?_ | refine qb4 ?_ | refine qe ?_ | refine loopQ_e ?_ | refine loopQ_r ?_
    all_goals clear E
    exact finQ_g (G_d [84]) (ret_a rfl)
end Go.Pw
