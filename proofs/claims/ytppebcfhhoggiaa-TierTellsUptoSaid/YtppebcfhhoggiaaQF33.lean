/- Functions of the reference: is an instruction right? -/
import Derived.Test.YtppebcfhhoggiaaQF32
import Derived.Test.YtppebcfhhoggiaaQF20
set_option linter.unusedVariables false
set_option linter.unusedSimpArgs false
namespace Go.Pw
open Go Go.Proofs
attribute [local irreducible] runL W endD thenQ blockQ loopQ joinQ
set_option maxRecDepth 8000
set_option maxHeartbeats 16000000
theorem C38 (c : Cod) (f : Fn) (i : Ins) (pc : Int) (hs : Sm i.args) (h0 : 0 ≤ pc) (hpc : pc ≤ 1099511627776) (hz : ∀ ps ∈ c.pats, psizes ps ≤ 1099511627776) : C Try.prog 38 [c.av, f.av, i.av, dInt pc] [] (dBool (insGood c f pc i)) [] [] := by
  have hnl := nextOf_len i pc
  have hml := armsOf_len i
  have hal := armsOf_regs i
  have hrl := readsOf_len i
  by_cases ho : i.op < 1
  · refine C_intro T_ok (rs := [.tmp 8]) Try.func38 rfl rfl rfl (Nat.le_of_ble_eq_true rfl) (Nat.le_of_ble_eq_true rfl) rfl ⟨rfl, rfl⟩ rfl fun cx hn => ?_
    have hn : cx.n = 309 := hn
    have Y := And.intro T3 (And.intro T4 (And.intro T9 (And.intro T22 (And.intro T23 (And.intro T24 (And.intro T25 (And.intro T26 (And.intro T27 (And.intro T28 (And.intro T30 (And.intro T38 (And.intro T40 (And.intro T60 (And.intro T61 (And.intro T63 (And.intro T67 (And.intro T75 (And.intro T77 (And.intro T95 (And.intro T98 (T108)))))))))))))))))))))
    simp only [enumA, enumO, Nat.reduceAdd]
    have E := @ho
    repeat' first | refine R_nil ?_ | ((with_reducible apply tagG); first | refine qg1 ?_ | refine qg2 ?_ | refine qg3 ?_ | refine qg4 ?_ | refine qg5 ?_ | refine qg6 (fun hb => ?_) (fun hb => ?_)) | ((with_reducible apply tagS); first | ((with_reducible apply tagD); first | refine qd1 ?_ | refine qd3 ?_) | ((with_reducible apply tagR); first | refine qr1 ?_ | refine qr3 ?_)) | ((with_reducible apply tagN); first | ((with_reducible apply tagD); first | refine qd2 ?_ | refine qd4 ?_) | ((with_reducible apply tagR); first | refine qr2 ?_ | refine qr4 ?_)) | ((with_reducible apply tagW); first | refine qw1 ?_ | refine qw2 ?_ | refine qw3 ?_ | refine qw4 ?_ | refine qw5 ?_ | refine qw6 (fun hb => ?_) (fun hb => ?_) | refine qw7 ?_ | refine qw8 ?_ | refine qw9 ?_ | refine qw0 ?_) | refine thenQ_n ?_ | refine thenQ_e ?_ | refine thenQ_r ?_ | refine blockQ_n ?_ | refine blockQ_r ?_ | refine blockQ_hit ?_ | refine qb4 ?_ | refine qe ?_ | refine loopQ_e ?_ | refine loopQ_r ?_ | refine joinQ_e ?_ | refine joinQ_r ?_
    all_goals clear E
    exact ret_d rfl (by simp [insGood]; omega)
  by_cases ho2 : 27 < i.op
  · refine C_intro T_ok (rs := [.tmp 8]) Try.func38 rfl rfl rfl (Nat.le_of_ble_eq_true rfl) (Nat.le_of_ble_eq_true rfl) rfl ⟨rfl, rfl⟩ rfl fun cx hn => ?_
    have hn : cx.n = 309 := hn
    have Y := And.intro T3 (And.intro T4 (And.intro T9 (And.intro T22 (And.intro T23 (And.intro T24 (And.intro T25 (And.intro T26 (And.intro T27 (And.intro T28 (And.intro T30 (And.intro T38 (And.intro T40 (And.intro T60 (And.intro T61 (And.intro T63 (And.intro T67 (And.intro T75 (And.intro T77 (And.intro T95 (And.intro T98 (T108)))))))))))))))))))))
    simp only [enumA, enumO, Nat.reduceAdd]
    have E := And.intro @ho (@ho2)
    repeat' first | refine R_nil ?_ | ((with_reducible apply tagG); first | refine qg1 ?_ | refine qg2 ?_ | refine qg3 ?_ | refine qg4 ?_ | refine qg5 ?_ | refine qg6 (fun hb => ?_) (fun hb => ?_)) | ((with_reducible apply tagS); first | ((with_reducible apply tagD); first | refine qd1 ?_ | refine qd3 ?_) | ((with_reducible apply tagR); first | refine qr1 ?_ | refine qr3 ?_)) | ((with_reducible apply tagN); first | ((with_reducible apply tagD); first | refine qd2 ?_ | refine qd4 ?_) | ((with_reducible apply tagR); first | refine qr2 ?_ | refine qr4 ?_)) | ((with_reducible apply tagW); first | refine qw1 ?_ | refine qw2 ?_ | refine qw3 ?_ | refine qw4 ?_ | refine qw5 ?_ | refine qw6 (fun hb => ?_) (fun hb => ?_) | refine qw7 ?_ | refine qw8 ?_ | refine qw9 ?_ | refine qw0 ?_) | refine thenQ_n ?_ | refine thenQ_e ?_ | refine thenQ_r ?_ | refine blockQ_n ?_ | refine blockQ_r ?_ | refine blockQ_hit ?_ | refine qb4 ?_ | refine qe ?_ | refine loopQ_e ?_ | refine loopQ_r ?_ | refine joinQ_e ?_ | refine joinQ_r ?_
    all_goals clear E
    exact ret_d rfl (by simp [insGood]; omega)
  have hb1 : ∀ n, (decide (0 ≤ n) && decide (n < (f.ins.length : Int))) = false → n ∈ nextOf i pc → insGood c f pc i = false := fun n hn hm => by
    unfold insGood
    rw [show (nextOf i pc).all (fun n => wi n f.ins.length) = false from List.all_eq_false.2 ⟨n, hm, by unfold wi; rw [hn]; simp⟩]; simp
  have hb2 : ∀ n, (decide (0 ≤ n) && decide (n < f.regs)) = false → n ∈ regsOf i → insGood c f pc i = false := fun n hn hm => by
    unfold insGood
    rw [show (regsOf i).all (fun n => wi n f.regs) = false from List.all_eq_false.2 ⟨n, hm, by unfold wi; rw [hn]; simp⟩]; simp
  refine C_intro T_ok (rs := [.tmp 8]) Try.func38 rfl rfl rfl (Nat.le_of_ble_eq_true rfl) (Nat.le_of_ble_eq_true rfl) rfl ⟨rfl, rfl⟩ rfl fun cx hn => ?_
  have hn : cx.n = 309 := hn
  have Y := And.intro T3 (And.intro T4 (And.intro T9 (And.intro T22 (And.intro T23 (And.intro T24 (And.intro T25 (And.intro T26 (And.intro T27 (And.intro T28 (And.intro T30 (And.intro T38 (And.intro T40 (And.intro T60 (And.intro T61 (And.intro T63 (And.intro T67 (And.intro T75 (And.intro T77 (And.intro T95 (And.intro T98 (T108)))))))))))))))))))))
  simp only [enumA, enumO, Nat.reduceAdd]
  have E := And.intro @ho (@ho2)
  repeat' first | refine R_nil ?_ | ((with_reducible apply tagG); first | refine qg1 ?_ | refine qg2 ?_ | refine qg3 ?_ | refine qg4 ?_ | refine qg5 ?_ | refine qg6 (fun hb => ?_) (fun hb => ?_)) | ((with_reducible apply tagK); first | ((with_reducible apply tagD); first | refine qd5 (C54 i pc hs h0 hpc) ?_) | ((with_reducible apply tagR); first | refine qr5 (C54 i pc hs h0 hpc) ?_)) | ((with_reducible apply tagS); first | ((with_reducible apply tagD); first | refine qd1 ?_ | refine qd3 ?_) | ((with_reducible apply tagR); first | refine qr1 ?_ | refine qr3 ?_)) | ((with_reducible apply tagN); first | ((with_reducible apply tagD); first | refine qd2 ?_ | refine qd4 ?_) | ((with_reducible apply tagR); first | refine qr2 ?_ | refine qr4 ?_)) | ((with_reducible apply tagW); first | refine qw1 ?_ | refine qw2 ?_ | refine qw3 ?_ | refine qw4 ?_ | refine qw5 ?_ | refine qw6 (fun hb => ?_) (fun hb => ?_) | refine qw7 ?_ | refine qw8 ?_ | refine qw9 ?_ | refine qw0 ?_) | refine thenQ_n ?_ | refine thenQ_e ?_ | refine thenQ_r ?_ | refine blockQ_n ?_ | refine blockQ_r ?_ | refine blockQ_hit ?_ | refine qb4 ?_ | refine qe ?_ | refine loopQ_e ?_ | refine loopQ_r ?_ | refine joinQ_e ?_ | refine joinQ_r ?_
  all_goals clear E
  refine W_loopQ (fun j : Nat => [(34, dInt j), (33, dInt (nextOf i pc).length), (32, .d (.sl (ints (nextOf i pc)))), (6, .ptr 6 0 0), (4, .ptr 4 0 0), (5, .ptr 5 0 0)]) (fun _ => [(6, some (.box i.cells)), (4, some (.box c.cells)), (5, some (.box f.cells))]) (fun j => (nextOf i pc).length - j) (fun j => j ≤ (nextOf i pc).length ∧ ((nextOf i pc).take j).all (fun n => wi n f.ins.length) = true) 0 ⟨by omega, rfl⟩ qs fun j ⟨hj, hj2⟩ => ?_
  by_cases hjl : j < (nextOf i pc).length
  · obtain ⟨y, hy⟩ := get_ex hjl
    have hj1 : (j:Int) < (nextOf i pc).length := by omega
    cases hw : (decide (0 ≤ y) && decide (y < (f.ins.length : Int))) with
    | false =>
      have E := And.intro @hj1 (And.intro (ints_get hy) (@hw))
      repeat' first | refine R_nil ?_ | ((with_reducible apply tagG); first | refine qg1 ?_ | refine qg2 ?_ | refine qg3 ?_ | refine qg4 ?_ | refine qg5 ?_ | refine qg6 (fun hb => ?_) (fun hb => ?_)) | ((with_reducible apply tagK); first | ((with_reducible apply tagD); first | refine qd5 (C37 _ _) ?_) | ((with_reducible apply tagR); first | refine qr5 (C37 _ _) ?_)) | ((with_reducible apply tagS); first | ((with_reducible apply tagD); first | refine qd1 ?_ | refine qd3 ?_) | ((with_reducible apply tagR); first | refine qr1 ?_ | refine qr3 ?_)) | ((with_reducible apply tagN); first | ((with_reducible apply tagD); first | refine qd2 ?_ | refine qd4 ?_) | ((with_reducible apply tagR); first | refine qr2 ?_ | refine qr4 ?_)) | ((with_reducible apply tagW); first | refine qw1 ?_ | refine qw2 ?_ | refine qw3 ?_ | refine qw4 ?_ | refine qw5 ?_ | refine qw6 (fun hb => ?_) (fun hb => ?_) | refine qw7 ?_ | refine qw8 ?_ | refine qw9 ?_ | refine qw0 ?_) | refine thenQ_n ?_ | refine thenQ_e ?_ | refine thenQ_r ?_ | refine blockQ_n ?_ | refine blockQ_r ?_ | refine blockQ_hit ?_ | refine qb4 ?_ | refine qe ?_ | refine loopQ_e ?_ | refine loopQ_r ?_ | refine joinQ_e ?_ | refine joinQ_r ?_
      all_goals clear E
      exact ret_d rfl (by rw [hb1 y hw (List.mem_of_getElem? hy)])
    | true =>
      have E := And.intro @hj1 (And.intro (ints_get hy) (@hw))
      repeat' first | refine R_nil ?_ | ((with_reducible apply tagG); first | refine qg1 ?_ | refine qg2 ?_ | refine qg3 ?_ | refine qg4 ?_ | refine qg5 ?_ | refine qg6 (fun hb => ?_) (fun hb => ?_)) | ((with_reducible apply tagK); first | ((with_reducible apply tagD); first | refine qd5 (C37 _ _) ?_) | ((with_reducible apply tagR); first | refine qr5 (C37 _ _) ?_)) | ((with_reducible apply tagS); first | ((with_reducible apply tagD); first | refine qd1 ?_ | refine qd3 ?_) | ((with_reducible apply tagR); first | refine qr1 ?_ | refine qr3 ?_)) | ((with_reducible apply tagN); first | ((with_reducible apply tagD); first | refine qd2 ?_ | refine qd4 ?_) | ((with_reducible apply tagR); first | refine qr2 ?_ | refine qr4 ?_)) | ((with_reducible apply tagW); first | refine qw1 ?_ | refine qw2 ?_ | refine qw3 ?_ | refine qw4 ?_ | refine qw5 ?_ | refine qw6 (fun hb => ?_) (fun hb => ?_) | refine qw7 ?_ | refine qw8 ?_ | refine qw9 ?_ | refine qw0 ?_) | refine thenQ_n ?_ | refine thenQ_e ?_ | refine thenQ_r ?_ | refine blockQ_n ?_ | refine blockQ_r ?_ | refine blockQ_hit ?_ | refine qb4 ?_ | refine qe ?_ | refine loopQ_e ?_ | refine loopQ_r ?_ | refine joinQ_e ?_ | refine joinQ_r ?_
      all_goals clear E
      refine loopQ_n (j + 1) (by omega) ⟨by omega, all_take hj2 hy hw⟩ qs
  have hj1 : ¬ (j:Int) < (nextOf i pc).length := by omega
  have hnx : (nextOf i pc).all (fun n => wi n f.ins.length) = true := by rw [List.take_of_length_le (by omega)] at hj2; exact hj2
  clear hj2
  have d0 : (ints (readsOf i)).take (readsOf i).length = ints (readsOf i) := take_all _ _ (by omega)
  have d1 : ints (readsOf i) ++ [[DI i.a]] = ints (readsOf i ++ [i.a]) := by simp [ints]
  have E := @hj1
  repeat' first | refine R_nil ?_ | ((with_reducible apply tagG); first | refine qg1 ?_ | refine qg2 ?_ | refine qg3 ?_ | refine qg4 ?_ | refine qg5 ?_ | refine qg6 (fun hb => ?_) (fun hb => ?_)) | ((with_reducible apply tagK); first | ((with_reducible apply tagD); first | refine qd6 [] (C55 i hs) ?_ | refine qd5 (C56 i.op) ?_) | ((with_reducible apply tagR); first | refine qr6 [] (C55 i hs) ?_ | refine qr5 (C56 i.op) ?_)) | ((with_reducible apply tagS); first | ((with_reducible apply tagD); first | refine qd1 ?_ | refine qd3 ?_) | ((with_reducible apply tagR); first | refine qr1 ?_ | refine qr3 ?_)) | ((with_reducible apply tagN); first | ((with_reducible apply tagD); first | refine qd2 ?_ | refine qd4 ?_) | ((with_reducible apply tagR); first | refine qr2 ?_ | refine qr4 ?_)) | ((with_reducible apply tagW); first | refine qw1 ?_ | refine qw2 ?_ | refine qw3 ?_ | refine qw4 ?_ | refine qw5 ?_ | refine qw7 ?_ | refine qw8 ?_ | refine qw9 ?_ | refine qw0 ?_) | refine thenQ_n ?_ | refine thenQ_e ?_ | refine thenQ_r ?_ | refine blockQ_n ?_ | refine blockQ_r ?_ | refine blockQ_hit ?_ | refine qb4 ?_ | refine qe ?_ | refine loopQ_e ?_ | refine loopQ_r ?_ | refine joinQ_e ?_ | refine joinQ_r ?_
  all_goals clear E
  refine thenQ_j (α := List Int) (fun A => [(11, .ref 2368 0 A.length), (6, .ptr 6 0 0), (4, .ptr 4 0 0), (5, .ptr 5 0 0)]) (fun A => [(2368, some (.row 1 (ints A))), (6, some (.box i.cells)), (4, some (.box c.cells)), (5, some (.box f.cells))]) (fun A => A = readsOf i ++ (if writes i.op then [i.a] else [])) ?_ fun A hA => ?_
  · cases hw : writes i.op with
    | true =>
      have E := And.intro @d0 (@d1)
      repeat' first | refine R_nil ?_ | ((with_reducible apply tagG); first | refine qg1 ?_ | refine qg2 ?_ | refine qg3 ?_ | refine qg4 ?_ | refine qg5 ?_ | refine qg6 (fun hb => ?_) (fun hb => ?_)) | ((with_reducible apply tagS); first | ((with_reducible apply tagD); first | refine qd1 ?_ | refine qd3 ?_) | ((with_reducible apply tagR); first | refine qr1 ?_ | refine qr3 ?_)) | ((with_reducible apply tagN); first | ((with_reducible apply tagD); first | refine qd2 ?_ | refine qd4 ?_) | ((with_reducible apply tagR); first | refine qr2 ?_ | refine qr4 ?_)) | ((with_reducible apply tagW); first | refine qw1 ?_ | refine qw2 ?_ | refine qw3 ?_ | refine qw4 ?_ | refine qw5 ?_ | refine qw6 (fun hb => ?_) (fun hb => ?_) | refine qw7 ?_ | refine qw8 ?_ | refine qw9 ?_ | refine qw0 ?_) | refine thenQ_n ?_ | refine thenQ_e ?_ | refine thenQ_r ?_ | refine blockQ_n ?_ | refine blockQ_r ?_ | refine blockQ_hit ?_ | refine qb4 ?_ | refine qe ?_ | refine loopQ_e ?_ | refine loopQ_r ?_ | refine joinQ_e ?_ | refine joinQ_r ?_
      all_goals clear E
      refine joinQ_n (readsOf i ++ [i.a]) (by simp) (by have E := @List.length_append.{0}; exact qs)
    | false =>
      have E := @d0
      repeat' first | refine R_nil ?_ | ((with_reducible apply tagG); first | refine qg1 ?_ | refine qg2 ?_ | refine qg3 ?_ | refine qg4 ?_ | refine qg5 ?_ | refine qg6 (fun hb => ?_) (fun hb => ?_)) | ((with_reducible apply tagS); first | ((with_reducible apply tagD); first | refine qd1 ?_ | refine qd3 ?_) | ((with_reducible apply tagR); first | refine qr1 ?_ | refine qr3 ?_)) | ((with_reducible apply tagN); first | ((with_reducible apply tagD); first | refine qd2 ?_ | refine qd4 ?_) | ((with_reducible apply tagR); first | refine qr2 ?_ | refine qr4 ?_)) | ((with_reducible apply tagW); first | refine qw1 ?_ | refine qw2 ?_ | refine qw3 ?_ | refine qw4 ?_ | refine qw5 ?_ | refine qw6 (fun hb => ?_) (fun hb => ?_) | refine qw7 ?_ | refine qw8 ?_ | refine qw9 ?_ | refine qw0 ?_) | refine thenQ_n ?_ | refine thenQ_e ?_ | refine thenQ_r ?_ | refine blockQ_n ?_ | refine blockQ_r ?_ | refine blockQ_hit ?_ | refine qb4 ?_ | refine qe ?_ | refine loopQ_e ?_ | refine loopQ_r ?_ | refine joinQ_e ?_ | refine joinQ_r ?_
      all_goals clear E
      refine joinQ_n (readsOf i) (by simp) qs
  have hAl : A.length ≤ i.args.length + 3 := by rw [hA]; split <;> simp <;> omega
  repeat' first | refine R_nil ?_ | ((with_reducible apply tagG); first | refine qg1 ?_ | refine qg2 ?_ | refine qg3 ?_ | refine qg4 ?_ | refine qg5 ?_ | refine qg6 (fun hb => ?_) (fun hb => ?_)) | ((with_reducible apply tagK); first | ((with_reducible apply tagD); first | refine qd5 (C48 i hs) ?_) | ((with_reducible apply tagR); first | refine qr5 (C48 i hs) ?_)) | ((with_reducible apply tagS); first | ((with_reducible apply tagD); first | refine qd1 ?_ | refine qd3 ?_) | ((with_reducible apply tagR); first | refine qr1 ?_ | refine qr3 ?_)) | ((with_reducible apply tagN); first | ((with_reducible apply tagD); first | refine qd2 ?_ | refine qd4 ?_) | ((with_reducible apply tagR); first | refine qr2 ?_ | refine qr4 ?_)) | ((with_reducible apply tagW); first | refine qw1 ?_ | refine qw2 ?_ | refine qw3 ?_ | refine qw4 ?_ | refine qw5 ?_ | refine qw6 (fun hb => ?_) (fun hb => ?_) | refine qw7 ?_ | refine qw8 ?_ | refine qw9 ?_ | refine qw0 ?_) | refine thenQ_n ?_ | refine thenQ_e ?_ | refine thenQ_r ?_ | refine blockQ_n ?_ | refine blockQ_r ?_ | refine blockQ_hit ?_ | refine qb4 ?_ | refine qe ?_ | refine loopQ_e ?_ | refine loopQ_r ?_ | refine joinQ_e ?_ | refine joinQ_r ?_
  refine W_loopQ (fun j : Nat => [(59, dInt j), (58, dInt (armsOf i).length), (57, .d (.sl (armsD (armsOf i)))), (11, .ref 2368 0 (A ++ ((armsOf i).take j).flatMap (·.regs)).length), (6, .ptr 6 0 0), (4, .ptr 4 0 0), (5, .ptr 5 0 0)]) (fun j => [(2368, some (.row 1 (ints (A ++ ((armsOf i).take j).flatMap (·.regs))))), (6, some (.box i.cells)), (4, some (.box c.cells)), (5, some (.box f.cells))]) (fun j => (armsOf i).length - j) (fun j => j ≤ (armsOf i).length) 0 (by omega) (by simp only [List.take_zero, List.flatMap_nil, List.append_nil]; exact qs) fun j hj => ?_
  by_cases hjl : j < (armsOf i).length
  · obtain ⟨y, hy⟩ := get_ex hjl
    have hj1 : (j:Int) < (armsOf i).length := by omega
    have e1 : A ++ ((armsOf i).take (j + 1)).flatMap (·.regs) = (A ++ ((armsOf i).take j).flatMap (·.regs)) ++ y.regs := by
      rw [List.take_add_one, hy]; simp
    have hle : (A ++ ((armsOf i).take (j + 1)).flatMap (·.regs)).length ≤ A.length + i.args.length := by
      rw [List.length_append]
      refine Nat.add_le_add_left (Nat.le_trans ?_ hal) _
      conv => rhs; rw [← List.take_append_drop (j + 1) (armsOf i)]
      rw [List.flatMap_append, List.length_append]; omega
    rw [e1] at hle
    generalize A ++ ((armsOf i).take j).flatMap (·.regs) = B at *
    have e2 : (ints B).take B.length = ints B := take_all _ _ (by omega)
    have e3 : ints B ++ ints y.regs = ints (B ++ y.regs) := by simp [ints]
    rw [List.length_append] at hle
    have E := And.intro @hj1 (And.intro @e2 (And.intro @e3 ((armsD_get hy))))
    repeat' first | refine R_nil ?_ | ((with_reducible apply tagG); first | refine qg1 ?_ | refine qg2 ?_ | refine qg3 ?_ | refine qg4 ?_ | refine qg5 ?_ | refine qg6 (fun hb => ?_) (fun hb => ?_)) | ((with_reducible apply tagS); first | ((with_reducible apply tagD); first | refine qd1 ?_ | refine qd3 ?_) | ((with_reducible apply tagR); first | refine qr1 ?_ | refine qr3 ?_)) | ((with_reducible apply tagN); first | ((with_reducible apply tagD); first | refine qd2 ?_ | refine qd4 ?_) | ((with_reducible apply tagR); first | refine qr2 ?_ | refine qr4 ?_)) | ((with_reducible apply tagW); first | refine qw1 ?_ | refine qw2 ?_ | refine qw3 ?_ | refine qw4 ?_ | refine qw5 ?_ | refine qw6 (fun hb => ?_) (fun hb => ?_) | refine qw7 ?_ | refine qw8 ?_ | refine qw9 ?_ | refine qw0 ?_) | refine thenQ_n ?_ | refine thenQ_e ?_ | refine thenQ_r ?_ | refine blockQ_n ?_ | refine blockQ_r ?_ | refine blockQ_hit ?_ | refine qb4 ?_ | refine qe ?_ | refine loopQ_e ?_ | refine loopQ_r ?_ | refine joinQ_e ?_ | refine joinQ_r ?_
    all_goals clear E
    refine loopQ_n (j + 1) (by omega) (by omega) (by rw [e1]; exact qs)
  have hj1 : ¬ (j:Int) < (armsOf i).length := by omega
  have hR : A ++ ((armsOf i).take j).flatMap (·.regs) = regsOf i := by
    rw [List.take_of_length_le (by omega), hA]; rfl
  have hRl : (regsOf i).length ≤ 2 * i.args.length + 3 := by rw [← hR, List.length_append, List.take_of_length_le (by omega)]; omega
  rw [hR]
  have E := @hj1
  repeat' first | refine R_nil ?_ | ((with_reducible apply tagG); first | refine qg1 ?_ | refine qg2 ?_ | refine qg3 ?_ | refine qg4 ?_ | refine qg5 ?_ | refine qg6 (fun hb => ?_) (fun hb => ?_)) | ((with_reducible apply tagS); first | ((with_reducible apply tagD); first | refine qd1 ?_ | refine qd3 ?_) | ((with_reducible apply tagR); first | refine qr1 ?_ | refine qr3 ?_)) | ((with_reducible apply tagN); first | ((with_reducible apply tagD); first | refine qd2 ?_ | refine qd4 ?_) | ((with_reducible apply tagR); first | refine qr2 ?_ | refine qr4 ?_)) | ((with_reducible apply tagW); first | refine qw1 ?_ | refine qw2 ?_ | refine qw3 ?_ | refine qw4 ?_ | refine qw5 ?_ | refine qw6 (fun hb => ?_) (fun hb => ?_) | refine qw7 ?_ | refine qw8 ?_ | refine qw9 ?_ | refine qw0 ?_) | refine thenQ_n ?_ | refine thenQ_e ?_ | refine thenQ_r ?_ | refine blockQ_n ?_ | refine blockQ_r ?_ | refine blockQ_hit ?_ | refine qb4 ?_ | refine qe ?_ | refine loopQ_e ?_ | refine loopQ_r ?_ | refine joinQ_e ?_ | refine joinQ_r ?_
  all_goals clear E
  refine W_loopQ (fun j : Nat => [(70, dInt j), (69, dInt (regsOf i).length), (68, .ref 2368 0 (regsOf i).length), (6, .ptr 6 0 0), (4, .ptr 4 0 0), (5, .ptr 5 0 0)]) (fun _ => [(2368, some (.row 1 (ints (regsOf i)))), (6, some (.box i.cells)), (4, some (.box c.cells)), (5, some (.box f.cells))]) (fun j => (regsOf i).length - j) (fun j => j ≤ (regsOf i).length ∧ ((regsOf i).take j).all (fun n => wi n f.regs) = true) 0 ⟨by omega, rfl⟩ qs fun j ⟨hj, hj2⟩ => ?_
  by_cases hjl : j < (regsOf i).length
  · obtain ⟨y, hy⟩ := get_ex hjl
    have hj1 : (j:Int) < (regsOf i).length := by omega
    cases hw : (decide (0 ≤ y) && decide (y < f.regs)) with
    | false =>
      have E := And.intro @hj1 (And.intro (ints_get hy) (@hw))
      repeat' first | refine R_nil ?_ | ((with_reducible apply tagG); first | refine qg1 ?_ | refine qg2 ?_ | refine qg3 ?_ | refine qg4 ?_ | refine qg5 ?_ | refine qg6 (fun hb => ?_) (fun hb => ?_)) | ((with_reducible apply tagK); first | ((with_reducible apply tagD); first | refine qd5 (C37 _ _) ?_) | ((with_reducible apply tagR); first | refine qr5 (C37 _ _) ?_)) | ((with_reducible apply tagS); first | ((with_reducible apply tagD); first | refine qd1 ?_ | refine qd3 ?_) | ((with_reducible apply tagR); first | refine qr1 ?_ | refine qr3 ?_)) | ((with_reducible apply tagN); first | ((with_reducible apply tagD); first | refine qd2 ?_ | refine qd4 ?_) | ((with_reducible apply tagR); first | refine qr2 ?_ | refine qr4 ?_)) | ((with_reducible apply tagW); first | refine qw1 ?_ | refine qw2 ?_ | refine qw3 ?_ | refine qw4 ?_ | refine qw5 ?_ | refine qw6 (fun hb => ?_) (fun hb => ?_) | refine qw7 ?_ | refine qw8 ?_ | refine qw9 ?_ | refine qw0 ?_) | refine thenQ_n ?_ | refine thenQ_e ?_ | refine thenQ_r ?_ | refine blockQ_n ?_ | refine blockQ_r ?_ | refine blockQ_hit ?_ | refine qb4 ?_ | refine qe ?_ | refine loopQ_e ?_ | refine loopQ_r ?_ | refine joinQ_e ?_ | refine joinQ_r ?_
      all_goals clear E
      exact ret_d rfl (by rw [hb2 y hw (List.mem_of_getElem? hy)])
    | true =>
      have E := And.intro @hj1 (And.intro (ints_get hy) (@hw))
      repeat' first | refine R_nil ?_ | ((with_reducible apply tagG); first | refine qg1 ?_ | refine qg2 ?_ | refine qg3 ?_ | refine qg4 ?_ | refine qg5 ?_ | refine qg6 (fun hb => ?_) (fun hb => ?_)) | ((with_reducible apply tagK); first | ((with_reducible apply tagD); first | refine qd5 (C37 _ _) ?_) | ((with_reducible apply tagR); first | refine qr5 (C37 _ _) ?_)) | ((with_reducible apply tagS); first | ((with_reducible apply tagD); first | refine qd1 ?_ | refine qd3 ?_) | ((with_reducible apply tagR); first | refine qr1 ?_ | refine qr3 ?_)) | ((with_reducible apply tagN); first | ((with_reducible apply tagD); first | refine qd2 ?_ | refine qd4 ?_) | ((with_reducible apply tagR); first | refine qr2 ?_ | refine qr4 ?_)) | ((with_reducible apply tagW); first | refine qw1 ?_ | refine qw2 ?_ | refine qw3 ?_ | refine qw4 ?_ | refine qw5 ?_ | refine qw6 (fun hb => ?_) (fun hb => ?_) | refine qw7 ?_ | refine qw8 ?_ | refine qw9 ?_ | refine qw0 ?_) | refine thenQ_n ?_ | refine thenQ_e ?_ | refine thenQ_r ?_ | refine blockQ_n ?_ | refine blockQ_r ?_ | refine blockQ_hit ?_ | refine qb4 ?_ | refine qe ?_ | refine loopQ_e ?_ | refine loopQ_r ?_ | refine joinQ_e ?_ | refine joinQ_r ?_
      all_goals clear E
      refine loopQ_n (j + 1) (by omega) ⟨by omega, all_take hj2 hy hw⟩ qs
  have hj0 : ¬ (j:Int) < (regsOf i).length := by omega
  have hrx : (regsOf i).all (fun n => wi n f.regs) = true := by rw [List.take_of_length_le (by omega)] at hj2; exact hj2
  have hfin : insGood c f pc i = insOk c i := by
    simp only [insGood, hnx, hrx, Bool.and_true]
    have h1 : decide (1 ≤ i.op) = true := by simp; omega
    have h2 : decide (i.op < 28) = true := by simp; omega
    rw [h1, h2]; rfl
  rw [hfin]
  refine W_sub [(6, .ptr 6 0 0), (4, .ptr 4 0 0), (5, .ptr 5 0 0), (70, dInt j), (69, dInt (regsOf i).length)] [(6, some (.box i.cells)), (4, some (.box c.cells)), (5, some (.box f.cells))] qs ?_
  clear hj2 hrx hnx hb1 hb2 hA hAl hRl hR d0 d1 hfin hnl hal hrl
  by_cases h : i.op = 11
  · have ne := neq_of h
    have e : decide (i.op = 11) = true := by simp [h]
    have hC57 := C57 i.args hs
    cases hg : gat (i.args) with
    | none =>
      have ei : insOk c i = false := by simp [insOk, h, armsB, listFit, hg]; split <;> rfl
      rw [ei]
      have g2 : (none : Option (List Arm)).isSome = false := rfl
      rw [hg] at hC57
      have E := And.intro @e (And.intro @ne (And.intro @hj0 (And.intro @g2 (@e))))
      repeat' first | refine R_nil ?_ | ((with_reducible apply tagG); first | refine qg1 ?_ | refine qg2 ?_ | refine qg3 ?_ | refine qg4 ?_ | refine qg5 ?_ | refine qg6 (fun hb => ?_) (fun hb => ?_)) | ((with_reducible apply tagK); first | ((with_reducible apply tagD); first | refine qd5 (C37 _ _) ?_ | refine qd5 (hC57) ?_) | ((with_reducible apply tagR); first | refine qr5 (C37 _ _) ?_ | refine qr5 (hC57) ?_)) | ((with_reducible apply tagS); first | ((with_reducible apply tagD); first | refine qd1 ?_ | refine qd3 ?_) | ((with_reducible apply tagR); first | refine qr1 ?_ | refine qr3 ?_)) | ((with_reducible apply tagN); first | ((with_reducible apply tagD); first | refine qd2 ?_ | refine qd4 ?_) | ((with_reducible apply tagR); first | refine qr2 ?_ | refine qr4 ?_)) | ((with_reducible apply tagW); first | refine qw1 ?_ | refine qw2 ?_ | refine qw3 ?_ | refine qw4 ?_ | refine qw5 ?_ | refine qw6 (fun hb => ?_) (fun hb => ?_) | refine qw7 ?_ | refine qw8 ?_ | refine qw9 ?_ | refine qw0 ?_) | refine thenQ_n ?_ | refine thenQ_e ?_ | refine thenQ_r ?_ | refine blockQ_n ?_ | refine blockQ_r ?_ | refine blockQ_hit ?_ | refine qb4 ?_ | refine qe ?_ | refine loopQ_e ?_ | refine loopQ_r ?_ | refine joinQ_e ?_ | refine joinQ_r ?_
      all_goals clear E
      exact ret_d rfl rfl
    | some r =>
    have hgr : gath (i.args) = r := by simp [gath, hg]
    have g2 : (some r).isSome = true := rfl
    rw [hg, hgr] at hC57
    have hrl : r.length ≤ (i.args).length := by rw [← hgr]; exact gath_len _
    by_cases h0 : 0 ≤ i.b
    · have f0 : decide (0 ≤ i.b) = true := by simp [h0]
      by_cases h1 : i.b < c.pats.length
      · have f1 : decide (i.b < (c.pats.length : Int)) = true := by simp [h1]
        obtain ⟨ps, hps⟩ := get_ex (show i.b.toNat < c.pats.length by omega)
        have hpz := hz ps (List.mem_of_getElem? hps)
        have ei : insOk c i = armFit r ps := by simp [insOk, h, armsB, listFit, hg, hps, h0]
        rw [ei]
        by_cases hlen : r.length = ps.length
        · have eL : decide ((r.length : Int) = (ps.length : Int)) = true := by simp [hlen]
          have E := And.intro @e (And.intro @ne (And.intro @hj0 (And.intro @g2 (And.intro @f0 (And.intro @f1 (And.intro @h0 (And.intro @h1 (And.intro (patss_get hps) (And.intro @eL (@e))))))))))
          repeat' first | refine R_nil ?_ | ((with_reducible apply tagG); first | refine qg1 ?_ | refine qg2 ?_ | refine qg3 ?_ | refine qg4 ?_ | refine qg5 ?_ | refine qg6 (fun hb => ?_) (fun hb => ?_)) | ((with_reducible apply tagK); first | ((with_reducible apply tagD); first | refine qd5 (C37 _ _) ?_ | refine qd5 (hC57) ?_) | ((with_reducible apply tagR); first | refine qr5 (C37 _ _) ?_ | refine qr5 (hC57) ?_)) | ((with_reducible apply tagS); first | ((with_reducible apply tagD); first | refine qd1 ?_ | refine qd3 ?_) | ((with_reducible apply tagR); first | refine qr1 ?_ | refine qr3 ?_)) | ((with_reducible apply tagN); first | ((with_reducible apply tagD); first | refine qd2 ?_ | refine qd4 ?_) | ((with_reducible apply tagR); first | refine qr2 ?_ | refine qr4 ?_)) | ((with_reducible apply tagW); first | refine qw1 ?_ | refine qw2 ?_ | refine qw3 ?_ | refine qw4 ?_ | refine qw5 ?_ | refine qw6 (fun hb => ?_) (fun hb => ?_) | refine qw7 ?_ | refine qw8 ?_ | refine qw9 ?_ | refine qw0 ?_) | refine thenQ_n ?_ | refine thenQ_e ?_ | refine thenQ_r ?_ | refine blockQ_n ?_ | refine blockQ_r ?_ | refine blockQ_hit ?_ | refine qb4 ?_ | refine qe ?_ | refine loopQ_e ?_ | refine loopQ_r ?_ | refine joinQ_e ?_ | refine joinQ_r ?_
          all_goals clear E
          refine W_loopQ (fun j : Nat => [(289, dInt j), (288, dInt r.length), (287, .d (.sl (armsD r))), (6, .ptr 6 0 0), (4, .ptr 4 0 0)]) (fun _ => [(6, some (.box i.cells)), (4, some (.box c.cells))]) (fun j => r.length - j) (fun j => j ≤ r.length ∧ ((r.zip ps).all fun p => decide ((p.1.regs.length : Int) = bindsOf p.2)) = (((r.drop j).zip (ps.drop j)).all fun p => decide ((p.1.regs.length : Int) = bindsOf p.2))) 0 ⟨by omega, rfl⟩ qs fun j ⟨hj, hj2⟩ => ?_
          by_cases hjl : j < r.length
          · obtain ⟨x, hx⟩ := get_ex hjl
            obtain ⟨y, hy⟩ := get_ex (hlen ▸ hjl : j < ps.length)
            have hj1 : (j:Int) < r.length := by omega
            have hj3 : (j:Int) < ps.length := by omega
            have hpy := psizes_get hy
            have hC58 := C58 y (by omega)
            cases hq : decide ((x.regs.length : Int) = bindsOf y) with
            | true =>
              have E := And.intro @hj1 (And.intro @hj3 (And.intro (armsD_get hx) (And.intro (patss_get hps) (And.intro (patsD_get hy) (And.intro @h0 (And.intro @h1 (@hq)))))))
              repeat' first | refine R_nil ?_ | ((with_reducible apply tagG); first | refine qg1 ?_ | refine qg2 ?_ | refine qg3 ?_ | refine qg4 ?_ | refine qg5 ?_ | refine qg6 (fun hb => ?_) (fun hb => ?_)) | ((with_reducible apply tagK); first | ((with_reducible apply tagD); first | refine qd5 (hC58) ?_) | ((with_reducible apply tagR); first | refine qr5 (hC58) ?_)) | ((with_reducible apply tagS); first | ((with_reducible apply tagD); first | refine qd1 ?_ | refine qd3 ?_) | ((with_reducible apply tagR); first | refine qr1 ?_ | refine qr3 ?_)) | ((with_reducible apply tagN); first | ((with_reducible apply tagD); first | refine qd2 ?_ | refine qd4 ?_) | ((with_reducible apply tagR); first | refine qr2 ?_ | refine qr4 ?_)) | ((with_reducible apply tagW); first | refine qw1 ?_ | refine qw2 ?_ | refine qw3 ?_ | refine qw4 ?_ | refine qw5 ?_ | refine qw6 (fun hb => ?_) (fun hb => ?_) | refine qw7 ?_ | refine qw8 ?_ | refine qw9 ?_ | refine qw0 ?_) | refine thenQ_n ?_ | refine thenQ_e ?_ | refine thenQ_r ?_ | refine blockQ_n ?_ | refine blockQ_r ?_ | refine blockQ_hit ?_ | refine qb4 ?_ | refine qe ?_ | refine loopQ_e ?_ | refine loopQ_r ?_ | refine joinQ_e ?_ | refine joinQ_r ?_
              all_goals clear E
              refine loopQ_n (j + 1) (by omega) ⟨by omega, ?_⟩ qs
              rw [hj2, drop_some hx, drop_some hy, List.zip_cons_cons, List.all_cons]; simp only [hq, Bool.true_and]
            | false =>
              have E := And.intro @hj1 (And.intro @hj3 (And.intro (armsD_get hx) (And.intro (patss_get hps) (And.intro (patsD_get hy) (And.intro @h0 (And.intro @h1 (@hq)))))))
              repeat' first | refine R_nil ?_ | ((with_reducible apply tagG); first | refine qg1 ?_ | refine qg2 ?_ | refine qg3 ?_ | refine qg4 ?_ | refine qg5 ?_ | refine qg6 (fun hb => ?_) (fun hb => ?_)) | ((with_reducible apply tagK); first | ((with_reducible apply tagD); first | refine qd5 (hC58) ?_) | ((with_reducible apply tagR); first | refine qr5 (hC58) ?_)) | ((with_reducible apply tagS); first | ((with_reducible apply tagD); first | refine qd1 ?_ | refine qd3 ?_) | ((with_reducible apply tagR); first | refine qr1 ?_ | refine qr3 ?_)) | ((with_reducible apply tagN); first | ((with_reducible apply tagD); first | refine qd2 ?_ | refine qd4 ?_) | ((with_reducible apply tagR); first | refine qr2 ?_ | refine qr4 ?_)) | ((with_reducible apply tagW); first | refine qw1 ?_ | refine qw2 ?_ | refine qw3 ?_ | refine qw4 ?_ | refine qw5 ?_ | refine qw6 (fun hb => ?_) (fun hb => ?_) | refine qw7 ?_ | refine qw8 ?_ | refine qw9 ?_ | refine qw0 ?_) | refine thenQ_n ?_ | refine thenQ_e ?_ | refine thenQ_r ?_ | refine blockQ_n ?_ | refine blockQ_r ?_ | refine blockQ_hit ?_ | refine qb4 ?_ | refine qe ?_ | refine loopQ_e ?_ | refine loopQ_r ?_ | refine joinQ_e ?_ | refine joinQ_r ?_
              all_goals clear E
              refine ret_d rfl ?_
              rw [armFit, hj2, drop_some hx, drop_some hy, List.zip_cons_cons, List.all_cons]; simp only [hq, Bool.false_and, Bool.and_false]
          · have hj1 : ¬ (j:Int) < r.length := by omega
            have E := @hj1
            repeat' first | refine R_nil ?_ | ((with_reducible apply tagG); first | refine qg1 ?_ | refine qg2 ?_ | refine qg3 ?_ | refine qg4 ?_ | refine qg5 ?_ | refine qg6 (fun hb => ?_) (fun hb => ?_)) | ((with_reducible apply tagS); first | ((with_reducible apply tagD); first | refine qd1 ?_ | refine qd3 ?_) | ((with_reducible apply tagR); first | refine qr1 ?_ | refine qr3 ?_)) | ((with_reducible apply tagN); first | ((with_reducible apply tagD); first | refine qd2 ?_ | refine qd4 ?_) | ((with_reducible apply tagR); first | refine qr2 ?_ | refine qr4 ?_)) | ((with_reducible apply tagW); first | refine qw1 ?_ | refine qw2 ?_ | refine qw3 ?_ | refine qw4 ?_ | refine qw5 ?_ | refine qw6 (fun hb => ?_) (fun hb => ?_) | refine qw7 ?_ | refine qw8 ?_ | refine qw9 ?_ | refine qw0 ?_) | refine thenQ_n ?_ | refine thenQ_e ?_ | refine thenQ_r ?_ | refine blockQ_n ?_ | refine blockQ_r ?_ | refine blockQ_hit ?_ | refine qb4 ?_ | refine qe ?_ | refine loopQ_e ?_ | refine loopQ_r ?_ | refine joinQ_e ?_ | refine joinQ_r ?_
            all_goals clear E
            refine ret_d rfl ?_
            rw [armFit, hj2, drop_none hjl]; simp [hlen]
        · have eL : decide ((r.length : Int) = (ps.length : Int)) = false := by simp; omega
          have E := And.intro @e (And.intro @ne (And.intro @hj0 (And.intro @g2 (And.intro @f0 (And.intro @f1 (And.intro @h0 (And.intro @h1 (And.intro (patss_get hps) (And.intro @eL (@e))))))))))
          repeat' first | refine R_nil ?_ | ((with_reducible apply tagG); first | refine qg1 ?_ | refine qg2 ?_ | refine qg3 ?_ | refine qg4 ?_ | refine qg5 ?_ | refine qg6 (fun hb => ?_) (fun hb => ?_)) | ((with_reducible apply tagK); first | ((with_reducible apply tagD); first | refine qd5 (C37 _ _) ?_ | refine qd5 (hC57) ?_) | ((with_reducible apply tagR); first | refine qr5 (C37 _ _) ?_ | refine qr5 (hC57) ?_)) | ((with_reducible apply tagS); first | ((with_reducible apply tagD); first | refine qd1 ?_ | refine qd3 ?_) | ((with_reducible apply tagR); first | refine qr1 ?_ | refine qr3 ?_)) | ((with_reducible apply tagN); first | ((with_reducible apply tagD); first | refine qd2 ?_ | refine qd4 ?_) | ((with_reducible apply tagR); first | refine qr2 ?_ | refine qr4 ?_)) | ((with_reducible apply tagW); first | refine qw1 ?_ | refine qw2 ?_ | refine qw3 ?_ | refine qw4 ?_ | refine qw5 ?_ | refine qw6 (fun hb => ?_) (fun hb => ?_) | refine qw7 ?_ | refine qw8 ?_ | refine qw9 ?_ | refine qw0 ?_) | refine thenQ_n ?_ | refine thenQ_e ?_ | refine thenQ_r ?_ | refine blockQ_n ?_ | refine blockQ_r ?_ | refine blockQ_hit ?_ | refine qb4 ?_ | refine qe ?_ | refine loopQ_e ?_ | refine loopQ_r ?_ | refine joinQ_e ?_ | refine joinQ_r ?_
          all_goals clear E
          exact ret_d rfl (by simp [armFit, hlen])
      · have f1 : decide (i.b < (c.pats.length : Int)) = false := by simp only [decide_eq_false_iff_not]; exact h1
        have hg : c.pats[i.b.toNat]? = none := List.getElem?_eq_none (by omega)
        have ei : insOk c i = false := by simp [insOk, h, hg]
        rw [ei]
        have E := And.intro @e (And.intro @ne (And.intro @hj0 (And.intro @g2 (And.intro @f0 (And.intro @f1 (@e))))))
        repeat' first | refine R_nil ?_ | ((with_reducible apply tagG); first | refine qg1 ?_ | refine qg2 ?_ | refine qg3 ?_ | refine qg4 ?_ | refine qg5 ?_ | refine qg6 (fun hb => ?_) (fun hb => ?_)) | ((with_reducible apply tagK); first | ((with_reducible apply tagD); first | refine qd5 (C37 _ _) ?_ | refine qd5 (hC57) ?_) | ((with_reducible apply tagR); first | refine qr5 (C37 _ _) ?_ | refine qr5 (hC57) ?_)) | ((with_reducible apply tagS); first | ((with_reducible apply tagD); first | refine qd1 ?_ | refine qd3 ?_) | ((with_reducible apply tagR); first | refine qr1 ?_ | refine qr3 ?_)) | ((with_reducible apply tagN); first | ((with_reducible apply tagD); first | refine qd2 ?_ | refine qd4 ?_) | ((with_reducible apply tagR); first | refine qr2 ?_ | refine qr4 ?_)) | ((with_reducible apply tagW); first | refine qw1 ?_ | refine qw2 ?_ | refine qw3 ?_ | refine qw4 ?_ | refine qw5 ?_ | refine qw6 (fun hb => ?_) (fun hb => ?_) | refine qw7 ?_ | refine qw8 ?_ | refine qw9 ?_ | refine qw0 ?_) | refine thenQ_n ?_ | refine thenQ_e ?_ | refine thenQ_r ?_ | refine blockQ_n ?_ | refine blockQ_r ?_ | refine blockQ_hit ?_ | refine qb4 ?_ | refine qe ?_ | refine loopQ_e ?_ | refine loopQ_r ?_ | refine joinQ_e ?_ | refine joinQ_r ?_
        all_goals clear E
        exact ret_d rfl rfl
    · have f0 : decide (0 ≤ i.b) = false := by simp only [decide_eq_false_iff_not]; exact h0
      have ei : insOk c i = false := by simp only [insOk, h]; simp; split <;> simp [h0]
      rw [ei]
      have E := And.intro @e (And.intro @ne (And.intro @hj0 (And.intro @g2 (And.intro @f0 (@e)))))
      repeat' first | refine R_nil ?_ | ((with_reducible apply tagG); first | refine qg1 ?_ | refine qg2 ?_ | refine qg3 ?_ | refine qg4 ?_ | refine qg5 ?_ | refine qg6 (fun hb => ?_) (fun hb => ?_)) | ((with_reducible apply tagK); first | ((with_reducible apply tagD); first | refine qd5 (C37 _ _) ?_ | refine qd5 (hC57) ?_) | ((with_reducible apply tagR); first | refine qr5 (C37 _ _) ?_ | refine qr5 (hC57) ?_)) | ((with_reducible apply tagS); first | ((with_reducible apply tagD); first | refine qd1 ?_ | refine qd3 ?_) | ((with_reducible apply tagR); first | refine qr1 ?_ | refine qr3 ?_)) | ((with_reducible apply tagN); first | ((with_reducible apply tagD); first | refine qd2 ?_ | refine qd4 ?_) | ((with_reducible apply tagR); first | refine qr2 ?_ | refine qr4 ?_)) | ((with_reducible apply tagW); first | refine qw1 ?_ | refine qw2 ?_ | refine qw3 ?_ | refine qw4 ?_ | refine qw5 ?_ | refine qw6 (fun hb => ?_) (fun hb => ?_) | refine qw7 ?_ | refine qw8 ?_ | refine qw9 ?_ | refine qw0 ?_) | refine thenQ_n ?_ | refine thenQ_e ?_ | refine thenQ_r ?_ | refine blockQ_n ?_ | refine blockQ_r ?_ | refine blockQ_hit ?_ | refine qb4 ?_ | refine qe ?_ | refine loopQ_e ?_ | refine loopQ_r ?_ | refine joinQ_e ?_ | refine joinQ_r ?_
      all_goals clear E
      exact ret_d rfl rfl
  have k11 := h
  clear h
  by_cases h : i.op = 16
  · have ne := neq_of h
    have e : decide (i.op = 16) = true := by simp [h]
    cases ha : i.args with
    | nil =>
      have hl0 : i.args.length = 0 := by rw [ha]; rfl
      have ei : insOk c i = false := by simp [insOk, h, armsB, lateOk, ha]; split <;> rfl
      rw [ei]
      have E := And.intro @e (And.intro @ne (And.intro @hj0 (@hl0)))
      repeat' first | refine R_nil ?_ | ((with_reducible apply tagG); first | refine qg1 ?_ | refine qg2 ?_ | refine qg3 ?_ | refine qg4 ?_ | refine qg5 ?_ | refine qg6 (fun hb => ?_) (fun hb => ?_)) | ((with_reducible apply tagS); first | ((with_reducible apply tagD); first | refine qd1 ?_ | refine qd3 ?_) | ((with_reducible apply tagR); first | refine qr1 ?_ | refine qr3 ?_)) | ((with_reducible apply tagN); first | ((with_reducible apply tagD); first | refine qd2 ?_ | refine qd4 ?_) | ((with_reducible apply tagR); first | refine qr2 ?_ | refine qr4 ?_)) | ((with_reducible apply tagW); first | refine qw1 ?_ | refine qw2 ?_ | refine qw3 ?_ | refine qw4 ?_ | refine qw5 ?_ | refine qw6 (fun hb => ?_) (fun hb => ?_) | refine qw7 ?_ | refine qw8 ?_ | refine qw9 ?_ | refine qw0 ?_) | refine thenQ_n ?_ | refine thenQ_e ?_ | refine thenQ_r ?_ | refine blockQ_n ?_ | refine blockQ_r ?_ | refine blockQ_hit ?_ | refine qb4 ?_ | refine qe ?_ | refine loopQ_e ?_ | refine loopQ_r ?_ | refine joinQ_e ?_ | refine joinQ_r ?_
      all_goals clear E
      exact ret_d rfl rfl
    | cons y l =>
      have hal : i.args.length = l.length + 1 := by rw [ha]; rfl
      have hl0 : decide ((i.args.length : Int) = 0) = false := by rw [decide_eq_false_iff_not]; omega
      have hl1 : (0 : Int) < i.args.length := by omega
      have hy : i.args[0]? = some y := by rw [ha]; rfl
      by_cases c1 : i.c < -1
      · have ei : insOk c i = false := by simp [insOk, h, armsB, lateOk, ha, c1]; split <;> rfl
        rw [ei]
        have E := And.intro @e (And.intro @ne (And.intro @hj0 (And.intro @hl0 (And.intro @hl1 (And.intro (ints_get hy) (@c1))))))
        repeat' first | refine R_nil ?_ | ((with_reducible apply tagG); first | refine qg1 ?_ | refine qg2 ?_ | refine qg3 ?_ | refine qg4 ?_ | refine qg5 ?_ | refine qg6 (fun hb => ?_) (fun hb => ?_)) | ((with_reducible apply tagS); first | ((with_reducible apply tagD); first | refine qd1 ?_ | refine qd3 ?_) | ((with_reducible apply tagR); first | refine qr1 ?_ | refine qr3 ?_)) | ((with_reducible apply tagN); first | ((with_reducible apply tagD); first | refine qd2 ?_ | refine qd4 ?_) | ((with_reducible apply tagR); first | refine qr2 ?_ | refine qr4 ?_)) | ((with_reducible apply tagW); first | refine qw1 ?_ | refine qw2 ?_ | refine qw3 ?_ | refine qw4 ?_ | refine qw5 ?_ | refine qw6 (fun hb => ?_) (fun hb => ?_) | refine qw7 ?_ | refine qw8 ?_ | refine qw9 ?_ | refine qw0 ?_) | refine thenQ_n ?_ | refine thenQ_e ?_ | refine thenQ_r ?_ | refine blockQ_n ?_ | refine blockQ_r ?_ | refine blockQ_hit ?_ | refine qb4 ?_ | refine qe ?_ | refine loopQ_e ?_ | refine loopQ_r ?_ | refine joinQ_e ?_ | refine joinQ_r ?_
        all_goals clear E
        exact ret_d rfl rfl
      by_cases c2 : y < -1
      · have ei : insOk c i = false := by simp [insOk, h, armsB, lateOk, ha, c2]; split <;> rfl
        rw [ei]
        have E := And.intro @e (And.intro @ne (And.intro @hj0 (And.intro @hl0 (And.intro @hl1 (And.intro (ints_get hy) (And.intro @c1 (@c2)))))))
        repeat' first | refine R_nil ?_ | ((with_reducible apply tagG); first | refine qg1 ?_ | refine qg2 ?_ | refine qg3 ?_ | refine qg4 ?_ | refine qg5 ?_ | refine qg6 (fun hb => ?_) (fun hb => ?_)) | ((with_reducible apply tagS); first | ((with_reducible apply tagD); first | refine qd1 ?_ | refine qd3 ?_) | ((with_reducible apply tagR); first | refine qr1 ?_ | refine qr3 ?_)) | ((with_reducible apply tagN); first | ((with_reducible apply tagD); first | refine qd2 ?_ | refine qd4 ?_) | ((with_reducible apply tagR); first | refine qr2 ?_ | refine qr4 ?_)) | ((with_reducible apply tagW); first | refine qw1 ?_ | refine qw2 ?_ | refine qw3 ?_ | refine qw4 ?_ | refine qw5 ?_ | refine qw6 (fun hb => ?_) (fun hb => ?_) | refine qw7 ?_ | refine qw8 ?_ | refine qw9 ?_ | refine qw0 ?_) | refine thenQ_n ?_ | refine thenQ_e ?_ | refine thenQ_r ?_ | refine blockQ_n ?_ | refine blockQ_r ?_ | refine blockQ_hit ?_ | refine qb4 ?_ | refine qe ?_ | refine loopQ_e ?_ | refine loopQ_r ?_ | refine joinQ_e ?_ | refine joinQ_r ?_
        all_goals clear E
        exact ret_d rfl rfl
      cases c3 : (decide (y = -1) == decide (i.c = -1)) with
      | false =>
        have c4 : (decide (0 ≤ y) == decide (0 ≤ i.c)) = false := by
          revert c3
          by_cases q1 : y = -1 <;> by_cases q2 : i.c = -1 <;> simp [q1, q2] <;> omega
        have ei : insOk c i = false := by simp only [insOk, h, armsB, lateOk, ha, c4]; simp; split <;> simp
        rw [ei]
        have E := And.intro @e (And.intro @ne (And.intro @hj0 (And.intro @hl0 (And.intro @hl1 (And.intro (ints_get hy) (And.intro @c1 (And.intro @c2 (@c3))))))))
        repeat' first | refine R_nil ?_ | ((with_reducible apply tagG); first | refine qg1 ?_ | refine qg2 ?_ | refine qg3 ?_ | refine qg4 ?_ | refine qg5 ?_ | refine qg6 (fun hb => ?_) (fun hb => ?_)) | ((with_reducible apply tagS); first | ((with_reducible apply tagD); first | refine qd1 ?_ | refine qd3 ?_) | ((with_reducible apply tagR); first | refine qr1 ?_ | refine qr3 ?_)) | ((with_reducible apply tagN); first | ((with_reducible apply tagD); first | refine qd2 ?_ | refine qd4 ?_) | ((with_reducible apply tagR); first | refine qr2 ?_ | refine qr4 ?_)) | ((with_reducible apply tagW); first | refine qw1 ?_ | refine qw2 ?_ | refine qw3 ?_ | refine qw4 ?_ | refine qw5 ?_ | refine qw6 (fun hb => ?_) (fun hb => ?_) | refine qw7 ?_ | refine qw8 ?_ | refine qw9 ?_ | refine qw0 ?_) | refine thenQ_n ?_ | refine thenQ_e ?_ | refine thenQ_r ?_ | refine blockQ_n ?_ | refine blockQ_r ?_ | refine blockQ_hit ?_ | refine qb4 ?_ | refine qe ?_ | refine loopQ_e ?_ | refine loopQ_r ?_ | refine joinQ_e ?_ | refine joinQ_r ?_
        all_goals clear E
        exact ret_d rfl rfl
      | true =>
        have c4 : (decide (0 ≤ y) == decide (0 ≤ i.c)) = true := by
          revert c3
          by_cases q1 : y = -1 <;> by_cases q2 : i.c = -1 <;> simp [q1, q2] <;> omega
        have hlk : lateOk i = true := by simp only [lateOk, ha, c4]; simp; omega
        have d1 : ((ints i.args).drop 1).take (i.args.length - 1) = ints l := by
          rw [List.take_of_length_le (by simp [ints]), ha]; rfl
        have hd : i.args.drop 1 = l := by rw [ha]; rfl
        have hl2 : (1 : Int) ≤ i.args.length := by omega
        have hC57 := C57 l (by show _ ≤ _; omega)
        have hir := ints_rows i.args
        cases hg : gat (l) with
        | none =>
          have ei : insOk c i = false := by simp [insOk, h, armsB, listFit, hd, hg]; split <;> rfl
          rw [ei]
          have g2 : (none : Option (List Arm)).isSome = false := rfl
          rw [hg] at hC57
          have E := And.intro @e (And.intro @ne (And.intro @hj0 (And.intro @g2 (And.intro @hl0 (And.intro @hl1 (And.intro (ints_get hy) (And.intro @c1 (And.intro @c2 (And.intro @c3 (And.intro @d1 (And.intro @hl2 (@hir))))))))))))
          repeat' first | refine R_nil ?_ | ((with_reducible apply tagG); first | refine qg1 ?_ | refine qg2 ?_ | refine qg3 ?_ | refine qg4 ?_ | refine qg5 ?_ | refine qg6 (fun hb => ?_) (fun hb => ?_)) | ((with_reducible apply tagK); first | ((with_reducible apply tagD); first | refine qd5 (C37 _ _) ?_ | refine qd5 (hC57) ?_) | ((with_reducible apply tagR); first | refine qr5 (C37 _ _) ?_ | refine qr5 (hC57) ?_)) | ((with_reducible apply tagS); first | ((with_reducible apply tagD); first | refine qd1 ?_ | refine qd3 ?_) | ((with_reducible apply tagR); first | refine qr1 ?_ | refine qr3 ?_)) | ((with_reducible apply tagN); first | ((with_reducible apply tagD); first | refine qd2 ?_ | refine qd4 ?_) | ((with_reducible apply tagR); first | refine qr2 ?_ | refine qr4 ?_)) | ((with_reducible apply tagW); first | refine qw1 ?_ | refine qw2 ?_ | refine qw3 ?_ | refine qw4 ?_ | refine qw5 ?_ | refine qw6 (fun hb => ?_) (fun hb => ?_) | refine qw7 ?_ | refine qw8 ?_ | refine qw9 ?_ | refine qw0 ?_) | refine thenQ_n ?_ | refine thenQ_e ?_ | refine thenQ_r ?_ | refine blockQ_n ?_ | refine blockQ_r ?_ | refine blockQ_hit ?_ | refine qb4 ?_ | refine qe ?_ | refine loopQ_e ?_ | refine loopQ_r ?_ | refine joinQ_e ?_ | refine joinQ_r ?_
          all_goals clear E
          exact ret_d rfl rfl
        | some r =>
        have hgr : gath (l) = r := by simp [gath, hg]
        have g2 : (some r).isSome = true := rfl
        rw [hg, hgr] at hC57
        have hrl : r.length ≤ (l).length := by rw [← hgr]; exact gath_len _
        by_cases h0 : 0 ≤ i.b
        · have f0 : decide (0 ≤ i.b) = true := by simp [h0]
          by_cases h1 : i.b < c.pats.length
          · have f1 : decide (i.b < (c.pats.length : Int)) = true := by simp [h1]
            obtain ⟨ps, hps⟩ := get_ex (show i.b.toNat < c.pats.length by omega)
            have hpz := hz ps (List.mem_of_getElem? hps)
            have ei : insOk c i = armFit r ps := by simp [insOk, h, armsB, listFit, hd, hg, hps, h0, hlk]
            rw [ei]
            by_cases hlen : r.length = ps.length
            · have eL : decide ((r.length : Int) = (ps.length : Int)) = true := by simp [hlen]
              have E := And.intro @e (And.intro @ne (And.intro @hj0 (And.intro @g2 (And.intro @f0 (And.intro @f1 (And.intro @h0 (And.intro @h1 (And.intro (patss_get hps) (And.intro @eL (And.intro @hl0 (And.intro @hl1 (And.intro (ints_get hy) (And.intro @c1 (And.intro @c2 (And.intro @c3 (And.intro @d1 (And.intro @hl2 (@hir))))))))))))))))))
              repeat' first | refine R_nil ?_ | ((with_reducible apply tagG); first | refine qg1 ?_ | refine qg2 ?_ | refine qg3 ?_ | refine qg4 ?_ | refine qg5 ?_ | refine qg6 (fun hb => ?_) (fun hb => ?_)) | ((with_reducible apply tagK); first | ((with_reducible apply tagD); first | refine qd5 (C37 _ _) ?_ | refine qd5 (hC57) ?_) | ((with_reducible apply tagR); first | refine qr5 (C37 _ _) ?_ | refine qr5 (hC57) ?_)) | ((with_reducible apply tagS); first | ((with_reducible apply tagD); first | refine qd1 ?_ | refine qd3 ?_) | ((with_reducible apply tagR); first | refine qr1 ?_ | refine qr3 ?_)) | ((with_reducible apply tagN); first | ((with_reducible apply tagD); first | refine qd2 ?_ | refine qd4 ?_) | ((with_reducible apply tagR); first | refine qr2 ?_ | refine qr4 ?_)) | ((with_reducible apply tagW); first | refine qw1 ?_ | refine qw2 ?_ | refine qw3 ?_ | refine qw4 ?_ | refine qw5 ?_ | refine qw6 (fun hb => ?_) (fun hb => ?_) | refine qw7 ?_ | refine qw8 ?_ | refine qw9 ?_ | refine qw0 ?_) | refine thenQ_n ?_ | refine thenQ_e ?_ | refine thenQ_r ?_ | refine blockQ_n ?_ | refine blockQ_r ?_ | refine blockQ_hit ?_ | refine qb4 ?_ | refine qe ?_ | refine loopQ_e ?_ | refine loopQ_r ?_ | refine joinQ_e ?_ | refine joinQ_r ?_
              all_goals clear E
              refine W_loopQ (fun j : Nat => [(289, dInt j), (288, dInt r.length), (287, .d (.sl (armsD r))), (6, .ptr 6 0 0), (4, .ptr 4 0 0)]) (fun _ => [(6, some (.box i.cells)), (4, some (.box c.cells))]) (fun j => r.length - j) (fun j => j ≤ r.length ∧ ((r.zip ps).all fun p => decide ((p.1.regs.length : Int) = bindsOf p.2)) = (((r.drop j).zip (ps.drop j)).all fun p => decide ((p.1.regs.length : Int) = bindsOf p.2))) 0 ⟨by omega, rfl⟩ qs fun j ⟨hj, hj2⟩ => ?_
              by_cases hjl : j < r.length
              · obtain ⟨x, hx⟩ := get_ex hjl
                obtain ⟨y, hy⟩ := get_ex (hlen ▸ hjl : j < ps.length)
                have hj1 : (j:Int) < r.length := by omega
                have hj3 : (j:Int) < ps.length := by omega
                have hpy := psizes_get hy
                have hC58 := C58 y (by omega)
                cases hq : decide ((x.regs.length : Int) = bindsOf y) with
                | true =>
                  have E := And.intro @hj1 (And.intro @hj3 (And.intro (armsD_get hx) (And.intro (patss_get hps) (And.intro (patsD_get hy) (And.intro @h0 (And.intro @h1 (@hq)))))))
                  repeat' first | refine R_nil ?_ | ((with_reducible apply tagG); first | refine qg1 ?_ | refine qg2 ?_ | refine qg3 ?_ | refine qg4 ?_ | refine qg5 ?_ | refine qg6 (fun hb => ?_) (fun hb => ?_)) | ((with_reducible apply tagK); first | ((with_reducible apply tagD); first | refine qd5 (hC58) ?_) | ((with_reducible apply tagR); first | refine qr5 (hC58) ?_)) | ((with_reducible apply tagS); first | ((with_reducible apply tagD); first | refine qd1 ?_ | refine qd3 ?_) | ((with_reducible apply tagR); first | refine qr1 ?_ | refine qr3 ?_)) | ((with_reducible apply tagN); first | ((with_reducible apply tagD); first | refine qd2 ?_ | refine qd4 ?_) | ((with_reducible apply tagR); first | refine qr2 ?_ | refine qr4 ?_)) | ((with_reducible apply tagW); first | refine qw1 ?_ | refine qw2 ?_ | refine qw3 ?_ | refine qw4 ?_ | refine qw5 ?_ | refine qw6 (fun hb => ?_) (fun hb => ?_) | refine qw7 ?_ | refine qw8 ?_ | refine qw9 ?_ | refine qw0 ?_) | refine thenQ_n ?_ | refine thenQ_e ?_ | refine thenQ_r ?_ | refine blockQ_n ?_ | refine blockQ_r ?_ | refine blockQ_hit ?_ | refine qb4 ?_ | refine qe ?_ | refine loopQ_e ?_ | refine loopQ_r ?_ | refine joinQ_e ?_ | refine joinQ_r ?_
                  all_goals clear E
                  refine loopQ_n (j + 1) (by omega) ⟨by omega, ?_⟩ qs
                  rw [hj2, drop_some hx, drop_some hy, List.zip_cons_cons, List.all_cons]; simp only [hq, Bool.true_and]
                | false =>
                  have E := And.intro @hj1 (And.intro @hj3 (And.intro (armsD_get hx) (And.intro (patss_get hps) (And.intro (patsD_get hy) (And.intro @h0 (And.intro @h1 (@hq)))))))
                  repeat' first | refine R_nil ?_ | ((with_reducible apply tagG); first | refine qg1 ?_ | refine qg2 ?_ | refine qg3 ?_ | refine qg4 ?_ | refine qg5 ?_ | refine qg6 (fun hb => ?_) (fun hb => ?_)) | ((with_reducible apply tagK); first | ((with_reducible apply tagD); first | refine qd5 (hC58) ?_) | ((with_reducible apply tagR); first | refine qr5 (hC58) ?_)) | ((with_reducible apply tagS); first | ((with_reducible apply tagD); first | refine qd1 ?_ | refine qd3 ?_) | ((with_reducible apply tagR); first | refine qr1 ?_ | refine qr3 ?_)) | ((with_reducible apply tagN); first | ((with_reducible apply tagD); first | refine qd2 ?_ | refine qd4 ?_) | ((with_reducible apply tagR); first | refine qr2 ?_ | refine qr4 ?_)) | ((with_reducible apply tagW); first | refine qw1 ?_ | refine qw2 ?_ | refine qw3 ?_ | refine qw4 ?_ | refine qw5 ?_ | refine qw6 (fun hb => ?_) (fun hb => ?_) | refine qw7 ?_ | refine qw8 ?_ | refine qw9 ?_ | refine qw0 ?_) | refine thenQ_n ?_ | refine thenQ_e ?_ | refine thenQ_r ?_ | refine blockQ_n ?_ | refine blockQ_r ?_ | refine blockQ_hit ?_ | refine qb4 ?_ | refine qe ?_ | refine loopQ_e ?_ | refine loopQ_r ?_ | refine joinQ_e ?_ | refine joinQ_r ?_
                  all_goals clear E
                  refine ret_d rfl ?_
                  rw [armFit, hj2, drop_some hx, drop_some hy, List.zip_cons_cons, List.all_cons]; simp only [hq, Bool.false_and, Bool.and_false]
              · have hj1 : ¬ (j:Int) < r.length := by omega
                have E := @hj1
                repeat' first | refine R_nil ?_ | ((with_reducible apply tagG); first | refine qg1 ?_ | refine qg2 ?_ | refine qg3 ?_ | refine qg4 ?_ | refine qg5 ?_ | refine qg6 (fun hb => ?_) (fun hb => ?_)) | ((with_reducible apply tagS); first | ((with_reducible apply tagD); first | refine qd1 ?_ | refine qd3 ?_) | ((with_reducible apply tagR); first | refine qr1 ?_ | refine qr3 ?_)) | ((with_reducible apply tagN); first | ((with_reducible apply tagD); first | refine qd2 ?_ | refine qd4 ?_) | ((with_reducible apply tagR); first | refine qr2 ?_ | refine qr4 ?_)) | ((with_reducible apply tagW); first | refine qw1 ?_ | refine qw2 ?_ | refine qw3 ?_ | refine qw4 ?_ | refine qw5 ?_ | refine qw6 (fun hb => ?_) (fun hb => ?_) | refine qw7 ?_ | refine qw8 ?_ | refine qw9 ?_ | refine qw0 ?_) | refine thenQ_n ?_ | refine thenQ_e ?_ | refine thenQ_r ?_ | refine blockQ_n ?_ | refine blockQ_r ?_ | refine blockQ_hit ?_ | refine qb4 ?_ | refine qe ?_ | refine loopQ_e ?_ | refine loopQ_r ?_ | refine joinQ_e ?_ | refine joinQ_r ?_
                all_goals clear E
                refine ret_d rfl ?_
                rw [armFit, hj2, drop_none hjl]; simp [hlen]
            · have eL : decide ((r.length : Int) = (ps.length : Int)) = false := by simp; omega
              have E := And.intro @e (And.intro @ne (And.intro @hj0 (And.intro @g2 (And.intro @f0 (And.intro @f1 (And.intro @h0 (And.intro @h1 (And.intro (patss_get hps) (And.intro @eL (And.intro @hl0 (And.intro @hl1 (And.intro (ints_get hy) (And.intro @c1 (And.intro @c2 (And.intro @c3 (And.intro @d1 (And.intro @hl2 (@hir))))))))))))))))))
              repeat' first | refine R_nil ?_ | ((with_reducible apply tagG); first | refine qg1 ?_ | refine qg2 ?_ | refine qg3 ?_ | refine qg4 ?_ | refine qg5 ?_ | refine qg6 (fun hb => ?_) (fun hb => ?_)) | ((with_reducible apply tagK); first | ((with_reducible apply tagD); first | refine qd5 (C37 _ _) ?_ | refine qd5 (hC57) ?_) | ((with_reducible apply tagR); first | refine qr5 (C37 _ _) ?_ | refine qr5 (hC57) ?_)) | ((with_reducible apply tagS); first | ((with_reducible apply tagD); first | refine qd1 ?_ | refine qd3 ?_) | ((with_reducible apply tagR); first | refine qr1 ?_ | refine qr3 ?_)) | ((with_reducible apply tagN); first | ((with_reducible apply tagD); first | refine qd2 ?_ | refine qd4 ?_) | ((with_reducible apply tagR); first | refine qr2 ?_ | refine qr4 ?_)) | ((with_reducible apply tagW); first | refine qw1 ?_ | refine qw2 ?_ | refine qw3 ?_ | refine qw4 ?_ | refine qw5 ?_ | refine qw6 (fun hb => ?_) (fun hb => ?_) | refine qw7 ?_ | refine qw8 ?_ | refine qw9 ?_ | refine qw0 ?_) | refine thenQ_n ?_ | refine thenQ_e ?_ | refine thenQ_r ?_ | refine blockQ_n ?_ | refine blockQ_r ?_ | refine blockQ_hit ?_ | refine qb4 ?_ | refine qe ?_ | refine loopQ_e ?_ | refine loopQ_r ?_ | refine joinQ_e ?_ | refine joinQ_r ?_
              all_goals clear E
              exact ret_d rfl (by simp [armFit, hlen])
          · have f1 : decide (i.b < (c.pats.length : Int)) = false := by simp only [decide_eq_false_iff_not]; exact h1
            have hg : c.pats[i.b.toNat]? = none := List.getElem?_eq_none (by omega)
            have ei : insOk c i = false := by simp [insOk, h, hg]
            rw [ei]
            have E := And.intro @e (And.intro @ne (And.intro @hj0 (And.intro @g2 (And.intro @f0 (And.intro @f1 (And.intro @hl0 (And.intro @hl1 (And.intro (ints_get hy) (And.intro @c1 (And.intro @c2 (And.intro @c3 (And.intro @d1 (And.intro @hl2 (@hir))))))))))))))
            repeat' first | refine R_nil ?_ | ((with_reducible apply tagG); first | refine qg1 ?_ | refine qg2 ?_ | refine qg3 ?_ | refine qg4 ?_ | refine qg5 ?_ | refine qg6 (fun hb => ?_) (fun hb => ?_)) | ((with_reducible apply tagK); first | ((with_reducible apply tagD); first | refine qd5 (C37 _ _) ?_ | refine qd5 (hC57) ?_) | ((with_reducible apply tagR); first | refine qr5 (C37 _ _) ?_ | refine qr5 (hC57) ?_)) | ((with_reducible apply tagS); first | ((with_reducible apply tagD); first | refine qd1 ?_ | refine qd3 ?_) | ((with_reducible apply tagR); first | refine qr1 ?_ | refine qr3 ?_)) | ((with_reducible apply tagN); first | ((with_reducible apply tagD); first | refine qd2 ?_ | refine qd4 ?_) | ((with_reducible apply tagR); first | refine qr2 ?_ | refine qr4 ?_)) | ((with_reducible apply tagW); first | refine qw1 ?_ | refine qw2 ?_ | refine qw3 ?_ | refine qw4 ?_ | refine qw5 ?_ | refine qw6 (fun hb => ?_) (fun hb => ?_) | refine qw7 ?_ | refine qw8 ?_ | refine qw9 ?_ | refine qw0 ?_) | refine thenQ_n ?_ | refine thenQ_e ?_ | refine thenQ_r ?_ | refine blockQ_n ?_ | refine blockQ_r ?_ | refine blockQ_hit ?_ | refine qb4 ?_ | refine qe ?_ | refine loopQ_e ?_ | refine loopQ_r ?_ | refine joinQ_e ?_ | refine joinQ_r ?_
            all_goals clear E
            exact ret_d rfl rfl
        · have f0 : decide (0 ≤ i.b) = false := by simp only [decide_eq_false_iff_not]; exact h0
          have ei : insOk c i = false := by simp only [insOk, h]; simp; split <;> simp [h0]
          rw [ei]
          have E := And.intro @e (And.intro @ne (And.intro @hj0 (And.intro @g2 (And.intro @f0 (And.intro @hl0 (And.intro @hl1 (And.intro (ints_get hy) (And.intro @c1 (And.intro @c2 (And.intro @c3 (And.intro @d1 (And.intro @hl2 (@hir)))))))))))))
          repeat' first | refine R_nil ?_ | ((with_reducible apply tagG); first | refine qg1 ?_ | refine qg2 ?_ | refine qg3 ?_ | refine qg4 ?_ | refine qg5 ?_ | refine qg6 (fun hb => ?_) (fun hb => ?_)) | ((with_reducible apply tagK); first | ((with_reducible apply tagD); first | refine qd5 (C37 _ _) ?_ | refine qd5 (hC57) ?_) | ((with_reducible apply tagR); first | refine qr5 (C37 _ _) ?_ | refine qr5 (hC57) ?_)) | ((with_reducible apply tagS); first | ((with_reducible apply tagD); first | refine qd1 ?_ | refine qd3 ?_) | ((with_reducible apply tagR); first | refine qr1 ?_ | refine qr3 ?_)) | ((with_reducible apply tagN); first | ((with_reducible apply tagD); first | refine qd2 ?_ | refine qd4 ?_) | ((with_reducible apply tagR); first | refine qr2 ?_ | refine qr4 ?_)) | ((with_reducible apply tagW); first | refine qw1 ?_ | refine qw2 ?_ | refine qw3 ?_ | refine qw4 ?_ | refine qw5 ?_ | refine qw6 (fun hb => ?_) (fun hb => ?_) | refine qw7 ?_ | refine qw8 ?_ | refine qw9 ?_ | refine qw0 ?_) | refine thenQ_n ?_ | refine thenQ_e ?_ | refine thenQ_r ?_ | refine blockQ_n ?_ | refine blockQ_r ?_ | refine blockQ_hit ?_ | refine qb4 ?_ | refine qe ?_ | refine loopQ_e ?_ | refine loopQ_r ?_ | refine joinQ_e ?_ | refine joinQ_r ?_
          all_goals clear E
          exact ret_d rfl rfl
  have k16 := h
  clear h
  by_cases h : i.op = 1
  · have ne := neq_of h
    have e : decide (i.op = 1) = true := by simp [h]
    have E := And.intro @e (And.intro @ne (@hj0))
    repeat' first | refine R_nil ?_ | ((with_reducible apply tagG); first | refine qg1 ?_ | refine qg2 ?_ | refine qg3 ?_ | refine qg4 ?_ | refine qg5 ?_ | refine qg6 (fun hb => ?_) (fun hb => ?_)) | ((with_reducible apply tagK); first | ((with_reducible apply tagD); first | refine qd5 (C37 _ _) ?_) | ((with_reducible apply tagR); first | refine qr5 (C37 _ _) ?_)) | ((with_reducible apply tagS); first | ((with_reducible apply tagD); first | refine qd1 ?_ | refine qd3 ?_) | ((with_reducible apply tagR); first | refine qr1 ?_ | refine qr3 ?_)) | ((with_reducible apply tagN); first | ((with_reducible apply tagD); first | refine qd2 ?_ | refine qd4 ?_) | ((with_reducible apply tagR); first | refine qr2 ?_ | refine qr4 ?_)) | ((with_reducible apply tagW); first | refine qw1 ?_ | refine qw2 ?_ | refine qw3 ?_ | refine qw4 ?_ | refine qw5 ?_ | refine qw6 (fun hb => ?_) (fun hb => ?_) | refine qw7 ?_ | refine qw8 ?_ | refine qw9 ?_ | refine qw0 ?_) | refine thenQ_n ?_ | refine thenQ_e ?_ | refine thenQ_r ?_ | refine blockQ_n ?_ | refine blockQ_r ?_ | refine blockQ_hit ?_ | refine qb4 ?_ | refine qe ?_ | refine loopQ_e ?_ | refine loopQ_r ?_ | refine joinQ_e ?_ | refine joinQ_r ?_
    all_goals clear E
    all_goals (refine ret_d rfl ?_; first | (simp_all [insOk, wi]; done) | (simp_all [insOk, wi]; omega) | (simp_all [insOk, wi]; intros; exfalso; omega))
  have k1 := h
  clear h
  by_cases h : i.op = 7
  · have ne := neq_of h
    have e : decide (i.op = 7) = true := by simp [h]
    have E := And.intro @e (And.intro @ne (@hj0))
    repeat' first | refine R_nil ?_ | ((with_reducible apply tagG); first | refine qg1 ?_ | refine qg2 ?_ | refine qg3 ?_ | refine qg4 ?_ | refine qg5 ?_ | refine qg6 (fun hb => ?_) (fun hb => ?_)) | ((with_reducible apply tagK); first | ((with_reducible apply tagD); first | refine qd5 (C37 _ _) ?_) | ((with_reducible apply tagR); first | refine qr5 (C37 _ _) ?_)) | ((with_reducible apply tagS); first | ((with_reducible apply tagD); first | refine qd1 ?_ | refine qd3 ?_) | ((with_reducible apply tagR); first | refine qr1 ?_ | refine qr3 ?_)) | ((with_reducible apply tagN); first | ((with_reducible apply tagD); first | refine qd2 ?_ | refine qd4 ?_) | ((with_reducible apply tagR); first | refine qr2 ?_ | refine qr4 ?_)) | ((with_reducible apply tagW); first | refine qw1 ?_ | refine qw2 ?_ | refine qw3 ?_ | refine qw4 ?_ | refine qw5 ?_ | refine qw6 (fun hb => ?_) (fun hb => ?_) | refine qw7 ?_ | refine qw8 ?_ | refine qw9 ?_ | refine qw0 ?_) | refine thenQ_n ?_ | refine thenQ_e ?_ | refine thenQ_r ?_ | refine blockQ_n ?_ | refine blockQ_r ?_ | refine blockQ_hit ?_ | refine qb4 ?_ | refine qe ?_ | refine loopQ_e ?_ | refine loopQ_r ?_ | refine joinQ_e ?_ | refine joinQ_r ?_
    all_goals clear E
    all_goals (refine ret_d rfl ?_; first | (simp_all [insOk, wi]; done) | (simp_all [insOk, wi]; omega) | (simp_all [insOk, wi]; intros; exfalso; omega))
  have k7 := h
  clear h
  by_cases h : i.op = 10
  · have ne := neq_of h
    have e : decide (i.op = 10) = true := by simp [h]
    have E := And.intro @e (And.intro @ne (@hj0))
    repeat' first | refine R_nil ?_ | ((with_reducible apply tagG); first | refine qg1 ?_ | refine qg2 ?_ | refine qg3 ?_ | refine qg4 ?_ | refine qg5 ?_ | refine qg6 (fun hb => ?_) (fun hb => ?_)) | ((with_reducible apply tagK); first | ((with_reducible apply tagD); first | refine qd5 (C37 _ _) ?_) | ((with_reducible apply tagR); first | refine qr5 (C37 _ _) ?_)) | ((with_reducible apply tagS); first | ((with_reducible apply tagD); first | refine qd1 ?_ | refine qd3 ?_) | ((with_reducible apply tagR); first | refine qr1 ?_ | refine qr3 ?_)) | ((with_reducible apply tagN); first | ((with_reducible apply tagD); first | refine qd2 ?_ | refine qd4 ?_) | ((with_reducible apply tagR); first | refine qr2 ?_ | refine qr4 ?_)) | ((with_reducible apply tagW); first | refine qw1 ?_ | refine qw2 ?_ | refine qw3 ?_ | refine qw4 ?_ | refine qw5 ?_ | refine qw6 (fun hb => ?_) (fun hb => ?_) | refine qw7 ?_ | refine qw8 ?_ | refine qw9 ?_ | refine qw0 ?_) | refine thenQ_n ?_ | refine thenQ_e ?_ | refine thenQ_r ?_ | refine blockQ_n ?_ | refine blockQ_r ?_ | refine blockQ_hit ?_ | refine qb4 ?_ | refine qe ?_ | refine loopQ_e ?_ | refine loopQ_r ?_ | refine joinQ_e ?_ | refine joinQ_r ?_
    all_goals clear E
    all_goals (refine ret_d rfl ?_; first | (simp_all [insOk, wi]; done) | (simp_all [insOk, wi]; omega) | (simp_all [insOk, wi]; intros; exfalso; omega))
  have k10 := h
  clear h
  by_cases h : i.op = 17
  · have ne := neq_of h
    have e : decide (i.op = 17) = true := by simp [h]
    have E := And.intro @e (And.intro @ne (@hj0))
    repeat' first | refine R_nil ?_ | ((with_reducible apply tagG); first | refine qg1 ?_ | refine qg2 ?_ | refine qg3 ?_ | refine qg4 ?_ | refine qg5 ?_ | refine qg6 (fun hb => ?_) (fun hb => ?_)) | ((with_reducible apply tagK); first | ((with_reducible apply tagD); first | refine qd5 (C37 _ _) ?_) | ((with_reducible apply tagR); first | refine qr5 (C37 _ _) ?_)) | ((with_reducible apply tagS); first | ((with_reducible apply tagD); first | refine qd1 ?_ | refine qd3 ?_) | ((with_reducible apply tagR); first | refine qr1 ?_ | refine qr3 ?_)) | ((with_reducible apply tagN); first | ((with_reducible apply tagD); first | refine qd2 ?_ | refine qd4 ?_) | ((with_reducible apply tagR); first | refine qr2 ?_ | refine qr4 ?_)) | ((with_reducible apply tagW); first | refine qw1 ?_ | refine qw2 ?_ | refine qw3 ?_ | refine qw4 ?_ | refine qw5 ?_ | refine qw6 (fun hb => ?_) (fun hb => ?_) | refine qw7 ?_ | refine qw8 ?_ | refine qw9 ?_ | refine qw0 ?_) | refine thenQ_n ?_ | refine thenQ_e ?_ | refine thenQ_r ?_ | refine blockQ_n ?_ | refine blockQ_r ?_ | refine blockQ_hit ?_ | refine qb4 ?_ | refine qe ?_ | refine loopQ_e ?_ | refine loopQ_r ?_ | refine joinQ_e ?_ | refine joinQ_r ?_
    all_goals clear E
    all_goals (refine ret_d rfl ?_; first | (simp_all [insOk, wi]; done) | (simp_all [insOk, wi]; omega) | (simp_all [insOk, wi]; intros; exfalso; omega))
  have k17 := h
  clear h
  by_cases h : i.op = 27
  · have ne := neq_of h
    have e : decide (i.op = 27) = true := by simp [h]
    have E := And.intro @e (And.intro @ne (@hj0))
    repeat' first | refine R_nil ?_ | ((with_reducible apply tagG); first | refine qg1 ?_ | refine qg2 ?_ | refine qg3 ?_ | refine qg4 ?_ | refine qg5 ?_ | refine qg6 (fun hb => ?_) (fun hb => ?_)) | ((with_reducible apply tagK); first | ((with_reducible apply tagD); first | refine qd5 (C37 _ _) ?_) | ((with_reducible apply tagR); first | refine qr5 (C37 _ _) ?_)) | ((with_reducible apply tagS); first | ((with_reducible apply tagD); first | refine qd1 ?_ | refine qd3 ?_) | ((with_reducible apply tagR); first | refine qr1 ?_ | refine qr3 ?_)) | ((with_reducible apply tagN); first | ((with_reducible apply tagD); first | refine qd2 ?_ | refine qd4 ?_) | ((with_reducible apply tagR); first | refine qr2 ?_ | refine qr4 ?_)) | ((with_reducible apply tagW); first | refine qw1 ?_ | refine qw2 ?_ | refine qw3 ?_ | refine qw4 ?_ | refine qw5 ?_ | refine qw6 (fun hb => ?_) (fun hb => ?_) | refine qw7 ?_ | refine qw8 ?_ | refine qw9 ?_ | refine qw0 ?_) | refine thenQ_n ?_ | refine thenQ_e ?_ | refine thenQ_r ?_ | refine blockQ_n ?_ | refine blockQ_r ?_ | refine blockQ_hit ?_ | refine qb4 ?_ | refine qe ?_ | refine loopQ_e ?_ | refine loopQ_r ?_ | refine joinQ_e ?_ | refine joinQ_r ?_
    all_goals clear E
    all_goals (refine ret_d rfl ?_; first | (simp_all [insOk, wi]; done) | (simp_all [insOk, wi]; omega) | (simp_all [insOk, wi]; intros; exfalso; omega))
  have k27 := h
  clear h
  by_cases h : i.op = 5
  · have ne := neq_of h
    have e : decide (i.op = 5) = true := by simp [h]
    have n9 : ((9 : Nat) : Int) = 9 := rfl
    have E := And.intro @e (And.intro @ne (@hj0))
    repeat' first | refine R_nil ?_ | ((with_reducible apply tagG); first | refine qg1 ?_ | refine qg2 ?_ | refine qg3 ?_ | refine qg4 ?_ | refine qg5 ?_ | refine qg6 (fun hb => ?_) (fun hb => ?_)) | ((with_reducible apply tagK); first | ((with_reducible apply tagD); first | refine qd5 (C37 _ _) ?_) | ((with_reducible apply tagR); first | refine qr5 (C37 _ _) ?_)) | ((with_reducible apply tagS); first | ((with_reducible apply tagD); first | refine qd1 ?_ | refine qd3 ?_) | ((with_reducible apply tagR); first | refine qr1 ?_ | refine qr3 ?_)) | ((with_reducible apply tagN); first | ((with_reducible apply tagD); first | refine qd2 ?_ | refine qd4 ?_) | ((with_reducible apply tagR); first | refine qr2 ?_ | refine qr4 ?_)) | ((with_reducible apply tagW); first | refine qw1 ?_ | refine qw2 ?_ | refine qw3 ?_ | refine qw4 ?_ | refine qw5 ?_ | refine qw6 (fun hb => ?_) (fun hb => ?_) | refine qw7 ?_ | refine qw8 ?_ | refine qw9 ?_ | refine qw0 ?_) | refine thenQ_n ?_ | refine thenQ_e ?_ | refine thenQ_r ?_ | refine blockQ_n ?_ | refine blockQ_r ?_ | refine blockQ_hit ?_ | refine qb4 ?_ | refine qe ?_ | refine loopQ_e ?_ | refine loopQ_r ?_ | refine joinQ_e ?_ | refine joinQ_r ?_
    all_goals clear E
    all_goals (refine ret_d rfl ?_; first | (simp_all [insOk, wi]; done) | (simp_all [insOk, wi]; omega) | (simp_all [insOk, wi]; intros; exfalso; omega))
  have k5 := h
  clear h
  by_cases h : i.op = 6
  · have ne := neq_of h
    have e : decide (i.op = 6) = true := by simp [h]
    by_cases h0 : 0 ≤ i.b
    · have f0 : decide (0 ≤ i.b) = true := by simp [h0]
      by_cases h1 : i.b < (c.funs).length
      · have f1 : decide (i.b < ((c.funs).length : Int)) = true := by simp [h1]
        obtain ⟨g, hg⟩ := get_ex (show i.b.toNat < (c.funs).length by omega)
        have E := And.intro @e (And.intro @ne (And.intro @hj0 (And.intro (fns_get hg) (And.intro @f0 (And.intro @f1 (And.intro @h0 (@h1)))))))
        repeat' first | refine R_nil ?_ | ((with_reducible apply tagG); first | refine qg1 ?_ | refine qg2 ?_ | refine qg3 ?_ | refine qg4 ?_ | refine qg5 ?_ | refine qg6 (fun hb => ?_) (fun hb => ?_)) | ((with_reducible apply tagK); first | ((with_reducible apply tagD); first | refine qd5 (C37 _ _) ?_) | ((with_reducible apply tagR); first | refine qr5 (C37 _ _) ?_)) | ((with_reducible apply tagS); first | ((with_reducible apply tagD); first | refine qd1 ?_ | refine qd3 ?_) | ((with_reducible apply tagR); first | refine qr1 ?_ | refine qr3 ?_)) | ((with_reducible apply tagN); first | ((with_reducible apply tagD); first | refine qd2 ?_ | refine qd4 ?_) | ((with_reducible apply tagR); first | refine qr2 ?_ | refine qr4 ?_)) | ((with_reducible apply tagW); first | refine qw1 ?_ | refine qw2 ?_ | refine qw3 ?_ | refine qw4 ?_ | refine qw5 ?_ | refine qw6 (fun hb => ?_) (fun hb => ?_) | refine qw7 ?_ | refine qw8 ?_ | refine qw9 ?_ | refine qw0 ?_) | refine thenQ_n ?_ | refine thenQ_e ?_ | refine thenQ_r ?_ | refine blockQ_n ?_ | refine blockQ_r ?_ | refine blockQ_hit ?_ | refine qb4 ?_ | refine qe ?_ | refine loopQ_e ?_ | refine loopQ_r ?_ | refine joinQ_e ?_ | refine joinQ_r ?_
        all_goals clear E
        all_goals (refine ret_d rfl ?_; first | (simp_all [insOk, wi]; done) | (simp_all [insOk, wi]; omega) | (simp_all [insOk, wi]; intros; exfalso; omega))
      · have f1 : decide (i.b < ((c.funs).length : Int)) = false := by simp only [decide_eq_false_iff_not]; exact h1
        have hg : (c.funs)[i.b.toNat]? = none := List.getElem?_eq_none (by omega)
        have E := And.intro @e (And.intro @ne (And.intro @hj0 (And.intro @f0 (@f1))))
        repeat' first | refine R_nil ?_ | ((with_reducible apply tagG); first | refine qg1 ?_ | refine qg2 ?_ | refine qg3 ?_ | refine qg4 ?_ | refine qg5 ?_ | refine qg6 (fun hb => ?_) (fun hb => ?_)) | ((with_reducible apply tagK); first | ((with_reducible apply tagD); first | refine qd5 (C37 _ _) ?_) | ((with_reducible apply tagR); first | refine qr5 (C37 _ _) ?_)) | ((with_reducible apply tagS); first | ((with_reducible apply tagD); first | refine qd1 ?_ | refine qd3 ?_) | ((with_reducible apply tagR); first | refine qr1 ?_ | refine qr3 ?_)) | ((with_reducible apply tagN); first | ((with_reducible apply tagD); first | refine qd2 ?_ | refine qd4 ?_) | ((with_reducible apply tagR); first | refine qr2 ?_ | refine qr4 ?_)) | ((with_reducible apply tagW); first | refine qw1 ?_ | refine qw2 ?_ | refine qw3 ?_ | refine qw4 ?_ | refine qw5 ?_ | refine qw6 (fun hb => ?_) (fun hb => ?_) | refine qw7 ?_ | refine qw8 ?_ | refine qw9 ?_ | refine qw0 ?_) | refine thenQ_n ?_ | refine thenQ_e ?_ | refine thenQ_r ?_ | refine blockQ_n ?_ | refine blockQ_r ?_ | refine blockQ_hit ?_ | refine qb4 ?_ | refine qe ?_ | refine loopQ_e ?_ | refine loopQ_r ?_ | refine joinQ_e ?_ | refine joinQ_r ?_
        all_goals clear E
        all_goals exact ret_d rfl (by simp [insOk, h, hg])
    · have f0 : decide (0 ≤ i.b) = false := by simp only [decide_eq_false_iff_not]; exact h0
      have E := And.intro @e (And.intro @ne (And.intro @hj0 (@f0)))
      repeat' first | refine R_nil ?_ | ((with_reducible apply tagG); first | refine qg1 ?_ | refine qg2 ?_ | refine qg3 ?_ | refine qg4 ?_ | refine qg5 ?_ | refine qg6 (fun hb => ?_) (fun hb => ?_)) | ((with_reducible apply tagK); first | ((with_reducible apply tagD); first | refine qd5 (C37 _ _) ?_) | ((with_reducible apply tagR); first | refine qr5 (C37 _ _) ?_)) | ((with_reducible apply tagS); first | ((with_reducible apply tagD); first | refine qd1 ?_ | refine qd3 ?_) | ((with_reducible apply tagR); first | refine qr1 ?_ | refine qr3 ?_)) | ((with_reducible apply tagN); first | ((with_reducible apply tagD); first | refine qd2 ?_ | refine qd4 ?_) | ((with_reducible apply tagR); first | refine qr2 ?_ | refine qr4 ?_)) | ((with_reducible apply tagW); first | refine qw1 ?_ | refine qw2 ?_ | refine qw3 ?_ | refine qw4 ?_ | refine qw5 ?_ | refine qw6 (fun hb => ?_) (fun hb => ?_) | refine qw7 ?_ | refine qw8 ?_ | refine qw9 ?_ | refine qw0 ?_) | refine thenQ_n ?_ | refine thenQ_e ?_ | refine thenQ_r ?_ | refine blockQ_n ?_ | refine blockQ_r ?_ | refine blockQ_hit ?_ | refine qb4 ?_ | refine qe ?_ | refine loopQ_e ?_ | refine loopQ_r ?_ | refine joinQ_e ?_ | refine joinQ_r ?_
      all_goals clear E
      all_goals exact ret_d rfl (by simp only [insOk, h]; simp; split <;> simp [h0])
  have k6 := h
  clear h
  by_cases h : i.op = 8
  · have ne := neq_of h
    have e : decide (i.op = 8) = true := by simp [h]
    by_cases h0 : 0 ≤ i.b
    · have f0 : decide (0 ≤ i.b) = true := by simp [h0]
      by_cases h1 : i.b < (c.funs).length
      · have f1 : decide (i.b < ((c.funs).length : Int)) = true := by simp [h1]
        obtain ⟨g, hg⟩ := get_ex (show i.b.toNat < (c.funs).length by omega)
        have E := And.intro @e (And.intro @ne (And.intro @hj0 (And.intro (fns_get hg) (And.intro @f0 (And.intro @f1 (And.intro @h0 (@h1)))))))
        repeat' first | refine R_nil ?_ | ((with_reducible apply tagG); first | refine qg1 ?_ | refine qg2 ?_ | refine qg3 ?_ | refine qg4 ?_ | refine qg5 ?_ | refine qg6 (fun hb => ?_) (fun hb => ?_)) | ((with_reducible apply tagK); first | ((with_reducible apply tagD); first | refine qd5 (C37 _ _) ?_) | ((with_reducible apply tagR); first | refine qr5 (C37 _ _) ?_)) | ((with_reducible apply tagS); first | ((with_reducible apply tagD); first | refine qd1 ?_ | refine qd3 ?_) | ((with_reducible apply tagR); first | refine qr1 ?_ | refine qr3 ?_)) | ((with_reducible apply tagN); first | ((with_reducible apply tagD); first | refine qd2 ?_ | refine qd4 ?_) | ((with_reducible apply tagR); first | refine qr2 ?_ | refine qr4 ?_)) | ((with_reducible apply tagW); first | refine qw1 ?_ | refine qw2 ?_ | refine qw3 ?_ | refine qw4 ?_ | refine qw5 ?_ | refine qw6 (fun hb => ?_) (fun hb => ?_) | refine qw7 ?_ | refine qw8 ?_ | refine qw9 ?_ | refine qw0 ?_) | refine thenQ_n ?_ | refine thenQ_e ?_ | refine thenQ_r ?_ | refine blockQ_n ?_ | refine blockQ_r ?_ | refine blockQ_hit ?_ | refine qb4 ?_ | refine qe ?_ | refine loopQ_e ?_ | refine loopQ_r ?_ | refine joinQ_e ?_ | refine joinQ_r ?_
        all_goals clear E
        all_goals (refine ret_d rfl ?_; first | (simp_all [insOk, wi]; done) | (simp_all [insOk, wi]; omega) | (simp_all [insOk, wi]; intros; exfalso; omega))
      · have f1 : decide (i.b < ((c.funs).length : Int)) = false := by simp only [decide_eq_false_iff_not]; exact h1
        have hg : (c.funs)[i.b.toNat]? = none := List.getElem?_eq_none (by omega)
        have E := And.intro @e (And.intro @ne (And.intro @hj0 (And.intro @f0 (@f1))))
        repeat' first | refine R_nil ?_ | ((with_reducible apply tagG); first | refine qg1 ?_ | refine qg2 ?_ | refine qg3 ?_ | refine qg4 ?_ | refine qg5 ?_ | refine qg6 (fun hb => ?_) (fun hb => ?_)) | ((with_reducible apply tagK); first | ((with_reducible apply tagD); first | refine qd5 (C37 _ _) ?_) | ((with_reducible apply tagR); first | refine qr5 (C37 _ _) ?_)) | ((with_reducible apply tagS); first | ((with_reducible apply tagD); first | refine qd1 ?_ | refine qd3 ?_) | ((with_reducible apply tagR); first | refine qr1 ?_ | refine qr3 ?_)) | ((with_reducible apply tagN); first | ((with_reducible apply tagD); first | refine qd2 ?_ | refine qd4 ?_) | ((with_reducible apply tagR); first | refine qr2 ?_ | refine qr4 ?_)) | ((with_reducible apply tagW); first | refine qw1 ?_ | refine qw2 ?_ | refine qw3 ?_ | refine qw4 ?_ | refine qw5 ?_ | refine qw6 (fun hb => ?_) (fun hb => ?_) | refine qw7 ?_ | refine qw8 ?_ | refine qw9 ?_ | refine qw0 ?_) | refine thenQ_n ?_ | refine thenQ_e ?_ | refine thenQ_r ?_ | refine blockQ_n ?_ | refine blockQ_r ?_ | refine blockQ_hit ?_ | refine qb4 ?_ | refine qe ?_ | refine loopQ_e ?_ | refine loopQ_r ?_ | refine joinQ_e ?_ | refine joinQ_r ?_
        all_goals clear E
        all_goals exact ret_d rfl (by simp [insOk, h, hg])
    · have f0 : decide (0 ≤ i.b) = false := by simp only [decide_eq_false_iff_not]; exact h0
      have E := And.intro @e (And.intro @ne (And.intro @hj0 (@f0)))
      repeat' first | refine R_nil ?_ | ((with_reducible apply tagG); first | refine qg1 ?_ | refine qg2 ?_ | refine qg3 ?_ | refine qg4 ?_ | refine qg5 ?_ | refine qg6 (fun hb => ?_) (fun hb => ?_)) | ((with_reducible apply tagK); first | ((with_reducible apply tagD); first | refine qd5 (C37 _ _) ?_) | ((with_reducible apply tagR); first | refine qr5 (C37 _ _) ?_)) | ((with_reducible apply tagS); first | ((with_reducible apply tagD); first | refine qd1 ?_ | refine qd3 ?_) | ((with_reducible apply tagR); first | refine qr1 ?_ | refine qr3 ?_)) | ((with_reducible apply tagN); first | ((with_reducible apply tagD); first | refine qd2 ?_ | refine qd4 ?_) | ((with_reducible apply tagR); first | refine qr2 ?_ | refine qr4 ?_)) | ((with_reducible apply tagW); first | refine qw1 ?_ | refine qw2 ?_ | refine qw3 ?_ | refine qw4 ?_ | refine qw5 ?_ | refine qw6 (fun hb => ?_) (fun hb => ?_) | refine qw7 ?_ | refine qw8 ?_ | refine qw9 ?_ | refine qw0 ?_) | refine thenQ_n ?_ | refine thenQ_e ?_ | refine thenQ_r ?_ | refine blockQ_n ?_ | refine blockQ_r ?_ | refine blockQ_hit ?_ | refine qb4 ?_ | refine qe ?_ | refine loopQ_e ?_ | refine loopQ_r ?_ | refine joinQ_e ?_ | refine joinQ_r ?_
      all_goals clear E
      all_goals exact ret_d rfl (by simp only [insOk, h]; simp; split <;> simp [h0])
  have k8 := h
  clear h
  by_cases h : i.op = 12
  · have ne := neq_of h
    have e : decide (i.op = 12) = true := by simp [h]
    by_cases h0 : 0 ≤ i.b
    · have f0 : decide (0 ≤ i.b) = true := by simp [h0]
      by_cases h1 : i.b < (c.actors).length
      · have f1 : decide (i.b < ((c.actors).length : Int)) = true := by simp [h1]
        obtain ⟨g, hg⟩ := get_ex (show i.b.toNat < (c.actors).length by omega)
        have E := And.intro @e (And.intro @ne (And.intro @hj0 (And.intro (actrs_get hg) (And.intro @f0 (And.intro @f1 (And.intro @h0 (@h1)))))))
        repeat' first | refine R_nil ?_ | ((with_reducible apply tagG); first | refine qg1 ?_ | refine qg2 ?_ | refine qg3 ?_ | refine qg4 ?_ | refine qg5 ?_ | refine qg6 (fun hb => ?_) (fun hb => ?_)) | ((with_reducible apply tagK); first | ((with_reducible apply tagD); first | refine qd5 (C37 _ _) ?_) | ((with_reducible apply tagR); first | refine qr5 (C37 _ _) ?_)) | ((with_reducible apply tagS); first | ((with_reducible apply tagD); first | refine qd1 ?_ | refine qd3 ?_) | ((with_reducible apply tagR); first | refine qr1 ?_ | refine qr3 ?_)) | ((with_reducible apply tagN); first | ((with_reducible apply tagD); first | refine qd2 ?_ | refine qd4 ?_) | ((with_reducible apply tagR); first | refine qr2 ?_ | refine qr4 ?_)) | ((with_reducible apply tagW); first | refine qw1 ?_ | refine qw2 ?_ | refine qw3 ?_ | refine qw4 ?_ | refine qw5 ?_ | refine qw6 (fun hb => ?_) (fun hb => ?_) | refine qw7 ?_ | refine qw8 ?_ | refine qw9 ?_ | refine qw0 ?_) | refine thenQ_n ?_ | refine thenQ_e ?_ | refine thenQ_r ?_ | refine blockQ_n ?_ | refine blockQ_r ?_ | refine blockQ_hit ?_ | refine qb4 ?_ | refine qe ?_ | refine loopQ_e ?_ | refine loopQ_r ?_ | refine joinQ_e ?_ | refine joinQ_r ?_
        all_goals clear E
        all_goals (refine ret_d rfl ?_; first | (simp_all [insOk, wi]; done) | (simp_all [insOk, wi]; omega) | (simp_all [insOk, wi]; intros; exfalso; omega))
      · have f1 : decide (i.b < ((c.actors).length : Int)) = false := by simp only [decide_eq_false_iff_not]; exact h1
        have hg : (c.actors)[i.b.toNat]? = none := List.getElem?_eq_none (by omega)
        have E := And.intro @e (And.intro @ne (And.intro @hj0 (And.intro @f0 (@f1))))
        repeat' first | refine R_nil ?_ | ((with_reducible apply tagG); first | refine qg1 ?_ | refine qg2 ?_ | refine qg3 ?_ | refine qg4 ?_ | refine qg5 ?_ | refine qg6 (fun hb => ?_) (fun hb => ?_)) | ((with_reducible apply tagK); first | ((with_reducible apply tagD); first | refine qd5 (C37 _ _) ?_) | ((with_reducible apply tagR); first | refine qr5 (C37 _ _) ?_)) | ((with_reducible apply tagS); first | ((with_reducible apply tagD); first | refine qd1 ?_ | refine qd3 ?_) | ((with_reducible apply tagR); first | refine qr1 ?_ | refine qr3 ?_)) | ((with_reducible apply tagN); first | ((with_reducible apply tagD); first | refine qd2 ?_ | refine qd4 ?_) | ((with_reducible apply tagR); first | refine qr2 ?_ | refine qr4 ?_)) | ((with_reducible apply tagW); first | refine qw1 ?_ | refine qw2 ?_ | refine qw3 ?_ | refine qw4 ?_ | refine qw5 ?_ | refine qw6 (fun hb => ?_) (fun hb => ?_) | refine qw7 ?_ | refine qw8 ?_ | refine qw9 ?_ | refine qw0 ?_) | refine thenQ_n ?_ | refine thenQ_e ?_ | refine thenQ_r ?_ | refine blockQ_n ?_ | refine blockQ_r ?_ | refine blockQ_hit ?_ | refine qb4 ?_ | refine qe ?_ | refine loopQ_e ?_ | refine loopQ_r ?_ | refine joinQ_e ?_ | refine joinQ_r ?_
        all_goals clear E
        all_goals exact ret_d rfl (by simp [insOk, h, hg])
    · have f0 : decide (0 ≤ i.b) = false := by simp only [decide_eq_false_iff_not]; exact h0
      have E := And.intro @e (And.intro @ne (And.intro @hj0 (@f0)))
      repeat' first | refine R_nil ?_ | ((with_reducible apply tagG); first | refine qg1 ?_ | refine qg2 ?_ | refine qg3 ?_ | refine qg4 ?_ | refine qg5 ?_ | refine qg6 (fun hb => ?_) (fun hb => ?_)) | ((with_reducible apply tagK); first | ((with_reducible apply tagD); first | refine qd5 (C37 _ _) ?_) | ((with_reducible apply tagR); first | refine qr5 (C37 _ _) ?_)) | ((with_reducible apply tagS); first | ((with_reducible apply tagD); first | refine qd1 ?_ | refine qd3 ?_) | ((with_reducible apply tagR); first | refine qr1 ?_ | refine qr3 ?_)) | ((with_reducible apply tagN); first | ((with_reducible apply tagD); first | refine qd2 ?_ | refine qd4 ?_) | ((with_reducible apply tagR); first | refine qr2 ?_ | refine qr4 ?_)) | ((with_reducible apply tagW); first | refine qw1 ?_ | refine qw2 ?_ | refine qw3 ?_ | refine qw4 ?_ | refine qw5 ?_ | refine qw6 (fun hb => ?_) (fun hb => ?_) | refine qw7 ?_ | refine qw8 ?_ | refine qw9 ?_ | refine qw0 ?_) | refine thenQ_n ?_ | refine thenQ_e ?_ | refine thenQ_r ?_ | refine blockQ_n ?_ | refine blockQ_r ?_ | refine blockQ_hit ?_ | refine qb4 ?_ | refine qe ?_ | refine loopQ_e ?_ | refine loopQ_r ?_ | refine joinQ_e ?_ | refine joinQ_r ?_
      all_goals clear E
      all_goals exact ret_d rfl (by simp only [insOk, h]; simp; split <;> simp [h0])
  have k12 := h
  clear h
  have e1 : decide (i.op = 1) = false := by simp [k1]
  have e5 : decide (i.op = 5) = false := by simp [k5]
  have e6 : decide (i.op = 6) = false := by simp [k6]
  have e7 : decide (i.op = 7) = false := by simp [k7]
  have e8 : decide (i.op = 8) = false := by simp [k8]
  have e10 : decide (i.op = 10) = false := by simp [k10]
  have e17 : decide (i.op = 17) = false := by simp [k17]
  have e27 : decide (i.op = 27) = false := by simp [k27]
  have e12 : decide (i.op = 12) = false := by simp [k12]
  have e11 : decide (i.op = 11) = false := by simp [k11]
  have e16 : decide (i.op = 16) = false := by simp [k16]
  have E := And.intro @e1 (And.intro @e5 (And.intro @e6 (And.intro @e7 (And.intro @e8 (And.intro @e10 (And.intro @e17 (And.intro @e27 (And.intro @e12 (And.intro @e11 (And.intro @e16 (@hj0)))))))))))
  repeat' first | refine R_nil ?_ | ((with_reducible apply tagG); first | refine qg1 ?_ | refine qg2 ?_ | refine qg3 ?_ | refine qg4 ?_ | refine qg5 ?_ | refine qg6 (fun hb => ?_) (fun hb => ?_)) | ((with_reducible apply tagS); first | ((with_reducible apply tagD); first | refine qd1 ?_ | refine qd3 ?_) | ((with_reducible apply tagR); first | refine qr1 ?_ | refine qr3 ?_)) | ((with_reducible apply tagN); first | ((with_reducible apply tagD); first | refine qd2 ?_ | refine qd4 ?_) | ((with_reducible apply tagR); first | refine qr2 ?_ | refine qr4 ?_)) | ((with_reducible apply tagW); first | refine qw1 ?_ | refine qw2 ?_ | refine qw3 ?_ | refine qw4 ?_ | refine qw5 ?_ | refine qw6 (fun hb => ?_) (fun hb => ?_) | refine qw7 ?_ | refine qw8 ?_ | refine qw9 ?_ | refine qw0 ?_) | refine thenQ_n ?_ | refine thenQ_e ?_ | refine thenQ_r ?_ | refine blockQ_n ?_ | refine blockQ_r ?_ | refine blockQ_hit ?_ | refine qb4 ?_ | refine qe ?_ | refine loopQ_e ?_ | refine loopQ_r ?_ | refine joinQ_e ?_ | refine joinQ_r ?_
  all_goals clear E
  all_goals exact ret_d rfl (by simp [insOk, k1, k5, k6, k7, k8, k10, k17, k27, k12, k11, k16])
end Go.Pw
