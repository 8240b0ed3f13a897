/- Functions: arms of an instruction. -/
import Derived.Test.YtppebcfhhoggiaaQF4
set_option linter.unusedVariables false
set_option linter.unusedSimpArgs false
namespace Go.Pw
open Go Go.Proofs
attribute [local irreducible] runL W endD thenQ blockQ loopQ
set_option maxRecDepth 4000
set_option maxHeartbeats 1000000
def armsOf (i : Ins) : List Arm := if i.op = 11 then gath i.args else if i.op = 16 then (match i.args with | [] => [] | _ :: l => gath l) else []
theorem drop1 (l : List Int) : (ints l).drop 1 = ints (l.drop 1) := ints_drop l 1
theorem take_all (l : List Int) (n : Nat) (h : l.length ≤ n) : (ints l).take n = ints l := List.take_of_length_le (by rw [ints_len]; exact h)
theorem C66 (i : Ins) (hs : Sm i.args) : C Try.prog 66 [i.av] [] (.ref 2000 0 (armsOf i).length) [] [.row 2 (armsD (armsOf i))] := by
  by_cases h11 : i.op = 11
  · have e : armsOf i = gath i.args := by simp [armsOf, h11]
    refine C_intro T_ok (rs := [.tmp 2]) Try.func66 rfl rfl rfl (Nat.le_of_ble_eq_true rfl) (Nat.le_of_ble_eq_true rfl) rfl ⟨rfl, rfl⟩ rfl fun cx hn => ?_
    have hn : cx.n = 25 := hn
    have Y := And.intro T3 (And.intro T23 (T60))
    simp only [enumA, enumO, Nat.reduceAdd]
    have E := @h11
    repeat' first | refine R_nil ?_ | ((with_reducible apply tagG); first | refine qg1 ?_ | refine qg2 ?_ | refine qg3 ?_ | refine qg4 ?_ | refine qg5 ?_ | refine qg6 (fun hb => ?_) (fun hb => ?_)) | ((with_reducible apply tagK); first | ((with_reducible apply tagD); first | refine qd6 [] (C72 i.args hs) ?_) | ((with_reducible apply tagR); first | refine qr6 [] (C72 i.args hs) ?_)) | ((with_reducible apply tagS); first | ((with_reducible apply tagD); first | refine qd1 ?_ | refine qd3 ?_) | ((with_reducible apply tagR); first | refine qr1 ?_ | refine qr3 ?_)) | ((with_reducible apply tagN); first | ((with_reducible apply tagD); first | refine qd2 ?_ | refine qd4 ?_) | ((with_reducible apply tagR); first | refine qr2 ?_ | refine qr4 ?_)) | ((with_reducible apply tagW); first | refine qw1 ?_ | refine qw2 ?_ | refine qw3 ?_ | refine qw4 ?_ | refine qw5 ?_ | refine qw6 (fun hb => ?_) (fun hb => ?_) | refine qw7 ?_ | refine qw8 ?_ | refine qw9 ?_ | refine qw0 ?_) | refine thenQ_n ?_ | refine thenQ_e ?_ | refine thenQ_r ?_ | refine blockQ_n ?_ | refine blockQ_r ?_ | refine blockQ_hit ?_ | refine qb4 ?_ | refine qe ?_ | refine loopQ_e ?_ | refine loopQ_r ?_
    all_goals clear E
    exact ret_own rfl rfl rfl (by rw [e]) (by rw [e])
  by_cases h16 : i.op = 16
  · cases hl : i.args with
    | nil =>
      have e : armsOf i = [] := by simp [armsOf, h16, hl]
      have h0 : i.args.length = 0 := by rw [hl]; rfl
      rw [e]
      refine C_intro T_ok (rs := [.tmp 2]) Try.func66 rfl rfl rfl (Nat.le_of_ble_eq_true rfl) (Nat.le_of_ble_eq_true rfl) rfl ⟨rfl, rfl⟩ rfl fun cx hn => ?_
      have hn : cx.n = 25 := hn
      have Y := And.intro T3 (And.intro T23 (T60))
      simp only [enumA, enumO, Nat.reduceAdd]
      have E := And.intro @h11 (And.intro @h16 (And.intro @h0 (@hl)))
      repeat' first | refine R_nil ?_ | ((with_reducible apply tagG); first | refine qg1 ?_ | refine qg2 ?_ | refine qg3 ?_ | refine qg4 ?_ | refine qg5 ?_ | refine qg6 (fun hb => ?_) (fun hb => ?_)) | ((with_reducible apply tagS); first | ((with_reducible apply tagD); first | refine qd1 ?_ | refine qd3 ?_) | ((with_reducible apply tagR); first | refine qr1 ?_ | refine qr3 ?_)) | ((with_reducible apply tagN); first | ((with_reducible apply tagD); first | refine qd2 ?_ | refine qd4 ?_) | ((with_reducible apply tagR); first | refine qr2 ?_ | refine qr4 ?_)) | ((with_reducible apply tagW); first | refine qw1 ?_ | refine qw2 ?_ | refine qw3 ?_ | refine qw4 ?_ | refine qw5 ?_ | refine qw6 (fun hb => ?_) (fun hb => ?_) | refine qw7 ?_ | refine qw8 ?_ | refine qw9 ?_ | refine qw0 ?_) | refine thenQ_n ?_ | refine thenQ_e ?_ | refine thenQ_r ?_ | refine blockQ_n ?_ | refine blockQ_r ?_ | refine blockQ_hit ?_ | refine qb4 ?_ | refine qe ?_ | refine loopQ_e ?_ | refine loopQ_r ?_
      all_goals clear E
      exact ret_nil 2 rfl
    | cons x l =>
      have e : armsOf i = gath l := by simp [armsOf, h16, hl]
      have hlen : i.args.length = l.length + 1 := by rw [hl]; rfl
      have h0 : ¬ (i.args.length : Int) = 0 := by omega
      have h1 : ((ints i.args).drop 1).take ((i.args.length : Int).toNat - 1) = ints l := by
        rw [List.take_of_length_le (by simp [ints]), hl]; rfl
      have h1' : ((ints i.args).drop 1).take (i.args.length - 1) = ints l := by
        rw [List.take_of_length_le (by simp [ints]), hl]; rfl
      have t1 : Int.toNat 1 = 1 := rfl
      refine C_intro T_ok (rs := [.tmp 2]) Try.func66 rfl rfl rfl (Nat.le_of_ble_eq_true rfl) (Nat.le_of_ble_eq_true rfl) rfl ⟨rfl, rfl⟩ rfl fun cx hn => ?_
      have hn : cx.n = 25 := hn
      have Y := And.intro T3 (And.intro T23 (T60))
      simp only [enumA, enumO, Nat.reduceAdd]
      have E := And.intro @h11 (And.intro @h16 (And.intro @h0 (And.intro @h1 (And.intro @h1' (@t1)))))
      repeat' first | refine R_nil ?_ | ((with_reducible apply tagG); first | refine qg1 ?_ | refine qg2 ?_ | refine qg3 ?_ | refine qg4 ?_ | refine qg5 ?_ | refine qg6 (fun hb => ?_) (fun hb => ?_)) | ((with_reducible apply tagK); first | ((with_reducible apply tagD); first | refine qd6 [] (C72 l (by omega)) ?_) | ((with_reducible apply tagR); first | refine qr6 [] (C72 l (by omega)) ?_)) | ((with_reducible apply tagS); first | ((with_reducible apply tagD); first | refine qd1 ?_ | refine qd3 ?_) | ((with_reducible apply tagR); first | refine qr1 ?_ | refine qr3 ?_)) | ((with_reducible apply tagN); first | ((with_reducible apply tagD); first | refine qd2 ?_ | refine qd4 ?_) | ((with_reducible apply tagR); first | refine qr2 ?_ | refine qr4 ?_)) | ((with_reducible apply tagW); first | refine qw1 ?_ | refine qw2 ?_ | refine qw3 ?_ | refine qw4 ?_ | refine qw5 ?_ | refine qw6 (fun hb => ?_) (fun hb => ?_) | refine qw7 ?_ | refine qw8 ?_ | refine qw9 ?_ | refine qw0 ?_) | refine thenQ_n ?_ | refine thenQ_e ?_ | refine thenQ_r ?_ | refine blockQ_n ?_ | refine blockQ_r ?_ | refine blockQ_hit ?_ | refine qb4 ?_ | refine qe ?_ | refine loopQ_e ?_ | refine loopQ_r ?_
      all_goals clear E
      exact ret_own rfl rfl rfl (by rw [e]) (by rw [e])
  · have e : armsOf i = [] := by simp [armsOf, h16, h11]
    rw [e]
    refine C_intro T_ok (rs := [.tmp 2]) Try.func66 rfl rfl rfl (Nat.le_of_ble_eq_true rfl) (Nat.le_of_ble_eq_true rfl) rfl ⟨rfl, rfl⟩ rfl fun cx hn => ?_
    have hn : cx.n = 25 := hn
    have Y := And.intro T3 (And.intro T23 (T60))
    simp only [enumA, enumO, Nat.reduceAdd]
    have E := And.intro @h11 (@h16)
    repeat' first | refine R_nil ?_ | ((with_reducible apply tagG); first | refine qg1 ?_ | refine qg2 ?_ | refine qg3 ?_ | refine qg4 ?_ | refine qg5 ?_ | refine qg6 (fun hb => ?_) (fun hb => ?_)) | ((with_reducible apply tagS); first | ((with_reducible apply tagD); first | refine qd1 ?_ | refine qd3 ?_) | ((with_reducible apply tagR); first | refine qr1 ?_ | refine qr3 ?_)) | ((with_reducible apply tagN); first | ((with_reducible apply tagD); first | refine qd2 ?_ | refine qd4 ?_) | ((with_reducible apply tagR); first | refine qr2 ?_ | refine qr4 ?_)) | ((with_reducible apply tagW); first | refine qw1 ?_ | refine qw2 ?_ | refine qw3 ?_ | refine qw4 ?_ | refine qw5 ?_ | refine qw6 (fun hb => ?_) (fun hb => ?_) | refine qw7 ?_ | refine qw8 ?_ | refine qw9 ?_ | refine qw0 ?_) | refine thenQ_n ?_ | refine thenQ_e ?_ | refine thenQ_r ?_ | refine blockQ_n ?_ | refine blockQ_r ?_ | refine blockQ_hit ?_ | refine qb4 ?_ | refine qe ?_ | refine loopQ_e ?_ | refine loopQ_r ?_
    all_goals clear E
    exact ret_nil 2 rfl
theorem C67 (l : List Arm) (b : Bool) (hl : Sm l) (hs : (l.flatMap fun a => a.pc :: (a.regs.length : Int) :: a.regs).length ≤ 16777216) : C Try.prog 67 [slA b (armsD l)] [] (.ref 2000 0 (l.flatMap fun a => a.pc :: (a.regs.length : Int) :: a.regs).length) [] [.row 1 (ints (l.flatMap fun a => a.pc :: (a.regs.length : Int) :: a.regs))] := by
  rcases bool2 b with hbb | hbb
  all_goals
    refine C_intro T_ok (rs := [.tmp 2]) Try.func67 rfl rfl rfl (Nat.le_of_ble_eq_true rfl) (Nat.le_of_ble_eq_true rfl) rfl ⟨rfl, rfl⟩ rfl fun cx hn => ?_
    have hn : cx.n = 25 := hn
    have Y := And.intro T3 (And.intro T23 (And.intro T95 (T98)))
    simp only [enumA, enumO, Nat.reduceAdd]
    have E := @hbb
    repeat' first | refine R_nil ?_ | ((with_reducible apply tagG); first | refine qg1 ?_ | refine qg2 ?_ | refine qg3 ?_ | refine qg4 ?_ | refine qg5 ?_ | refine qg6 (fun hb => ?_) (fun hb => ?_)) | ((with_reducible apply tagS); first | ((with_reducible apply tagD); first | refine qd1 ?_ | refine qd3 ?_) | ((with_reducible apply tagR); first | refine qr1 ?_ | refine qr3 ?_)) | ((with_reducible apply tagN); first | ((with_reducible apply tagD); first | refine qd2 ?_ | refine qd4 ?_) | ((with_reducible apply tagR); first | refine qr2 ?_ | refine qr4 ?_)) | ((with_reducible apply tagW); first | refine qw1 ?_ | refine qw2 ?_ | refine qw3 ?_ | refine qw4 ?_ | refine qw5 ?_ | refine qw6 (fun hb => ?_) (fun hb => ?_) | refine qw7 ?_ | refine qw8 ?_ | refine qw9 ?_ | refine qw0 ?_) | refine thenQ_n ?_ | refine thenQ_e ?_ | refine thenQ_r ?_ | refine blockQ_n ?_ | refine blockQ_r ?_ | refine blockQ_hit ?_ | refine qb4 ?_ | refine qe ?_ | refine loopQ_e ?_ | refine loopQ_r ?_
    all_goals clear E
    refine W_ghost (G_adopt 3 19 1 rfl rfl (.inr (by decide))) ?_
    refine W_loopQ (fun i : Nat => [(8, dInt i), (7, dInt l.length), (6, slA b (armsD l)), (3, .ref 19 0 ((l.take i).flatMap fun a => a.pc :: (a.regs.length : Int) :: a.regs).length)]) (fun i => [(19, some (.row 1 (ints ((l.take i).flatMap fun a => a.pc :: (a.regs.length : Int) :: a.regs))))]) (fun i => l.length - i) (fun i => i ≤ l.length) 0 (by omega) (by have E := @hbb; exact qs) fun i hi => ?_
    by_cases h : i < l.length
    · obtain ⟨x, hx⟩ := get_ex h
      have h1 : (i:Int) < l.length := by omega
      have e1 : (l.take (i + 1)).flatMap (fun a => a.pc :: (a.regs.length : Int) :: a.regs) = ((l.take i).flatMap fun a => a.pc :: (a.regs.length : Int) :: a.regs) ++ (x.pc :: (x.regs.length : Int) :: x.regs) := by
        rw [List.take_add_one, hx]; simp
      have hle : ((l.take (i + 1)).flatMap (fun a => a.pc :: (a.regs.length : Int) :: a.regs)).length ≤ 16777216 := by
        refine Nat.le_trans ?_ hs
        conv => rhs; rw [← List.take_append_drop (i + 1) l]
        rw [List.flatMap_append, List.length_append]; omega
      rw [e1] at hle
      generalize hA : (l.take i).flatMap (fun a => a.pc :: (a.regs.length : Int) :: a.regs) = A at *
      rw [List.length_append, List.length_cons, List.length_cons] at hle
      have d1 : (ints A).take A.length = ints A := List.take_of_length_le (by rw [ints_len]; omega)
      have d2 : ints A ++ [[DI x.pc], [DI (x.regs.length : Int)]] = ints (A ++ [x.pc, (x.regs.length : Int)]) := by simp [ints]
      have d3 : (ints (A ++ [x.pc, (x.regs.length : Int)])).take (A ++ [x.pc, (x.regs.length : Int)]).length = ints (A ++ [x.pc, (x.regs.length : Int)]) := List.take_of_length_le (by rw [ints_len]; omega)
      have d4 : ints (A ++ [x.pc, (x.regs.length : Int)]) ++ ints x.regs = ints (A ++ (x.pc :: (x.regs.length : Int) :: x.regs)) := by simp [ints]
      have E := And.intro @h1 (And.intro (armsD_get hx) (And.intro @hbb (And.intro @d1 (And.intro @d2 (And.intro @d3 (@d4))))))
      repeat' first | refine R_nil ?_ | ((with_reducible apply tagG); first | refine qg1 ?_ | refine qg2 ?_ | refine qg3 ?_ | refine qg4 ?_ | refine qg5 ?_ | refine qg6 (fun hb => ?_) (fun hb => ?_)) | ((with_reducible apply tagS); first | ((with_reducible apply tagD); first | refine qd1 ?_ | refine qd3 ?_) | ((with_reducible apply tagR); first | refine qr1 ?_ | refine qr3 ?_)) | ((with_reducible apply tagN); first | ((with_reducible apply tagD); first | refine qd2 ?_ | refine qd4 ?_) | ((with_reducible apply tagR); first | refine qr2 ?_ | refine qr4 ?_)) | ((with_reducible apply tagW); first | refine qw1 ?_ | refine qw2 ?_ | refine qw3 ?_ | refine qw4 ?_ | refine qw5 ?_ | refine qw6 (fun hb => ?_) (fun hb => ?_) | refine qw7 ?_ | refine qw8 ?_ | refine qw9 ?_ | refine qw0 ?_) | refine thenQ_n ?_ | refine thenQ_e ?_ | refine thenQ_r ?_ | refine blockQ_n ?_ | refine blockQ_r ?_ | refine blockQ_hit ?_ | refine qb4 ?_ | refine qe ?_ | refine loopQ_e ?_ | refine loopQ_r ?_
      all_goals clear E
      refine loopQ_n (i + 1) (by omega) (by omega) (by rw [e1]; have E := @hbb; exact qs)
    · have h1 : ¬ (i:Int) < l.length := by omega
      have E := And.intro @h1 (@hbb)
      repeat' first | refine R_nil ?_ | ((with_reducible apply tagG); first | refine qg1 ?_ | refine qg2 ?_ | refine qg3 ?_ | refine qg4 ?_ | refine qg5 ?_ | refine qg6 (fun hb => ?_) (fun hb => ?_)) | ((with_reducible apply tagS); first | ((with_reducible apply tagD); first | refine qd1 ?_ | refine qd3 ?_) | ((with_reducible apply tagR); first | refine qr1 ?_ | refine qr3 ?_)) | ((with_reducible apply tagN); first | ((with_reducible apply tagD); first | refine qd2 ?_ | refine qd4 ?_) | ((with_reducible apply tagR); first | refine qr2 ?_ | refine qr4 ?_)) | ((with_reducible apply tagW); first | refine qw1 ?_ | refine qw2 ?_ | refine qw3 ?_ | refine qw4 ?_ | refine qw5 ?_ | refine qw6 (fun hb => ?_) (fun hb => ?_) | refine qw7 ?_ | refine qw8 ?_ | refine qw9 ?_ | refine qw0 ?_) | refine thenQ_n ?_ | refine thenQ_e ?_ | refine thenQ_r ?_ | refine blockQ_n ?_ | refine blockQ_r ?_ | refine blockQ_hit ?_ | refine qb4 ?_ | refine qe ?_ | refine loopQ_e ?_ | refine loopQ_r ?_
      all_goals clear E
      have e : l.take i = l := List.take_of_length_le (by omega)
      exact ret_own rfl rfl rfl (by rw [e]) (by rw [e])
end Go.Pw
