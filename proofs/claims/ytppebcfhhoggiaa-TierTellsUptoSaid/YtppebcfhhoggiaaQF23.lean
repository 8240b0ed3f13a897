/- Functions: calls that are guarded. -/
import Derived.Test.YtppebcfhhoggiaaQL2
import Derived.Test.YtppebcfhhoggiaaQF19
import Derived.Test.YtppebcfhhoggiaaQF21
set_option linter.unusedVariables false
set_option linter.unusedSimpArgs false
namespace Go.Pw
open Go Go.Proofs
attribute [local irreducible] runL W endD thenQ blockQ loopQ
set_option maxRecDepth 8000
set_option maxHeartbeats 8000000
theorem C41 (i : Ins) (hs : Sm i.args) : C Try.prog 41 [i.av] [] i.av [] [] := by
  have d1 : (ints i.args).take i.args.length = ints i.args := take_all _ _ (by omega)
  refine C_intro T_ok (rs := [.cell 2 60]) Try.func41 rfl rfl rfl (Nat.le_of_ble_eq_true rfl) (Nat.le_of_ble_eq_true rfl) rfl ⟨rfl, rfl⟩ rfl fun cx hn => ?_
  have hn : cx.n = 8 := hn
  have Y := And.intro T3 (And.intro T23 (T60))
  simp only [enumA, enumO, Nat.reduceAdd]
  repeat' first | refine R_nil ?_ | ((with_reducible apply tagG); first | refine qg1 ?_ | refine qg2 ?_ | refine qg3 ?_ | refine qg4 ?_ | refine qg5 ?_ | refine qg6 (fun hb => ?_) (fun hb => ?_)) | ((with_reducible apply tagK); first | ((with_reducible apply tagD); first | refine qd6 [] (C63 i.args hs) ?_) | ((with_reducible apply tagR); first | refine qr6 [] (C63 i.args hs) ?_)) | ((with_reducible apply tagS); first | ((with_reducible apply tagD); first | refine qd1 ?_ | refine qd3 ?_) | ((with_reducible apply tagR); first | refine qr1 ?_ | refine qr3 ?_)) | ((with_reducible apply tagN); first | ((with_reducible apply tagD); first | refine qd2 ?_ | refine qd4 ?_) | ((with_reducible apply tagR); first | refine qr2 ?_ | refine qr4 ?_)) | ((with_reducible apply tagW); first | refine qw1 ?_ | refine qw2 ?_ | refine qw3 ?_ | refine qw4 ?_ | refine qw5 ?_ | refine qw6 (fun hb => ?_) (fun hb => ?_) | refine qw7 ?_ | refine qw8 ?_ | refine qw9 ?_ | refine qw0 ?_) | refine thenQ_n ?_ | refine thenQ_e ?_ | refine thenQ_r ?_ | refine blockQ_n ?_ | refine blockQ_r ?_ | refine blockQ_hit ?_ | refine qb4 ?_ | refine qe ?_ | refine loopQ_e ?_ | refine loopQ_r ?_
  have E := d1
  refine finQ_g (G_d [2040]) (ret_a rfl)
theorem idx_find {α : Type} (p : α → Bool) : ∀ (l : List α) (i : Int), (idx p i l = -1 ∧ l.find? p = none) ∨ ∃ (k : Nat) (x : α), idx p i l = i + k ∧ l[k]? = some x ∧ l.find? p = some x
  | [], _ => .inl ⟨rfl, rfl⟩
  | y :: l, i => by
    simp only [idx]
    by_cases h : p y = true
    · rw [if_pos h]; exact .inr ⟨0, y, by simp, rfl, by simp [h]⟩
    · rw [if_neg h]
      rcases idx_find p l (i + 1) with ⟨h1, h2⟩ | ⟨k, x, h1, h2, h3⟩
      · exact .inl ⟨h1, by simp [h, h2]⟩
      · exact .inr ⟨k + 1, x, by rw [h1]; omega, h2, by simp [h, h3]⟩
def textAt (c : Cod) (n : Int) : ByteArray := (c.texts[n.toNat]?).getD ByteArray.empty
def paramsAt (c : Cod) (n : Int) : Int := ((c.funs[n.toNat]?).map (·.params)).getD (-1)
def direct (c : Cod) (l : List Hint) (fn pc : Int) (i : Ins) : Option (Int × Int) :=
  if i.op = 7 then
    match l.find? (fun h => decide (h.fn = fn) && decide (h.pc = pc)) with
    | none => none
    | some h => match c.impls.find? (fun x => decide (x.name = textAt c i.b) && decide (x.for_ = h.tag)) with
      | none => none
      | some m => if 0 ≤ idx (fun y => decide (h.tag = y)) 0 c.texts ∧ paramsAt c m.fn = i.args.length then some (idx (fun y => decide (h.tag = y)) 0 c.texts, m.fn) else none
  else none
def Ins.zero : Ins := ⟨0, 0, 0, 0, []⟩
def guardI (i : Ins) (pc : Int) (tn : Int × Int) : Ins := ⟨27, i.args.headD 0, tn.1, pc, []⟩
def callI (i : Ins) (tn : Int × Int) : Ins := ⟨6, i.a, tn.2, 0, i.args⟩
def guardR (i : Ins) (pc : Int) : Option (Int × Int) → AV
  | some tn => .tup [(guardI i pc tn).av, (callI i tn).av, dBool true]
  | none => .tup [Ins.zero.av, Ins.zero.av, dBool false]
theorem C40 (c : Cod) (i : Ins) (fn pc : Int) (l : List Hint) (hc : c.Ok) (hl : Sm l) (hs : Sm i.args) (himp : c.impls.all (implGood c) = true) (hi : i.op = 7 → wi i.b c.texts.length = true ∧ 0 < i.args.length) :
    C Try.prog 40 [c.av, i.av, dInt fn, dInt pc, .d (.sl (hintsD l))] [] (guardR i pc (direct c l fn pc i)) [] [] := by
  have hC60 := C60 l fn pc hl
  have m1 : (-1 : Int) < 0 := by decide
  by_cases h7 : i.op = 7
  · have e7 : decide (i.op = 7) = true := by simp [h7]
    obtain ⟨hb, hal⟩ := hi h7
    obtain ⟨s, hst, hb0, hb1⟩ := wi_get hb
    rcases idx_find (fun h : Hint => decide (h.fn = fn) && decide (h.pc = pc)) l 0 with ⟨q1, q2⟩ | ⟨k, h, q1, q2, q3⟩
    · rw [q1] at hC60
      have e : direct c l fn pc i = none := by simp [direct, q2]
      rw [e]
      refine C_intro T_ok (rs := [.cell 10 60, .cell 11 60, .tmp 12]) Try.func40 rfl rfl rfl (Nat.le_of_ble_eq_true rfl) (Nat.le_of_ble_eq_true rfl) rfl ⟨rfl, rfl⟩ rfl fun cx hn => ?_
      have hn : cx.n = 84 := hn
      have Y := And.intro T3 (And.intro T4 (And.intro T9 (And.intro T22 (And.intro T23 (And.intro T24 (And.intro T25 (And.intro T26 (And.intro T27 (And.intro T28 (And.intro T30 (And.intro T38 (And.intro T40 (And.intro T46 (And.intro T48 (And.intro T60 (And.intro T61 (And.intro T63 (And.intro T67 (And.intro T75 (And.intro T77 (And.intro T87 (T115))))))))))))))))))))))
      simp only [enumA, enumO, Nat.reduceAdd]
      have E := And.intro @e7 (@m1)
      repeat' first | refine R_nil ?_ | ((with_reducible apply tagG); first | refine qg1 ?_ | refine qg2 ?_ | refine qg3 ?_ | refine qg4 ?_ | refine qg5 ?_ | refine qg6 (fun hb => ?_) (fun hb => ?_)) | ((with_reducible apply tagK); first | ((with_reducible apply tagD); first | refine qd7 [7, 8] (hC60) ?_ | refine qd6 [7, 8] (hC60) ?_) | ((with_reducible apply tagR); first | refine qr7 [7, 8] (hC60) ?_ | refine qr6 [7, 8] (hC60) ?_)) | ((with_reducible apply tagS); first | ((with_reducible apply tagD); first | refine qd1 ?_ | refine qd3 ?_) | ((with_reducible apply tagR); first | refine qr1 ?_ | refine qr3 ?_)) | ((with_reducible apply tagN); first | ((with_reducible apply tagD); first | refine qd2 ?_ | refine qd4 ?_) | ((with_reducible apply tagR); first | refine qr2 ?_ | refine qr4 ?_)) | ((with_reducible apply tagW); first | refine qw1 ?_ | refine qw2 ?_ | refine qw3 ?_ | refine qw4 ?_ | refine qw5 ?_ | refine qw6 (fun hb => ?_) (fun hb => ?_) | refine qw7 ?_ | refine qw8 ?_ | refine qw9 ?_ | refine qw0 ?_) | refine thenQ_n ?_ | refine thenQ_e ?_ | refine thenQ_r ?_ | refine blockQ_n ?_ | refine blockQ_r ?_ | refine blockQ_hit ?_ | refine qb4 ?_ | refine qe ?_ | refine loopQ_e ?_ | refine loopQ_r ?_
      all_goals clear E
      exact finQ_g (G_d []) (ret_a rfl)
    rw [Int.zero_add] at q1
    rw [q1] at hC60
    have hk0 : ¬ (k : Int) < 0 := by omega
    have hkl : (k : Int) < l.length := by have := (List.getElem?_eq_some_iff.1 q2).1; omega
    have hC52 := C52 false c.texts h.tag hc.texts
    have hC43 := C43b c.impls c i l k h s hb0 hst (by omega) (by simpa using q2) hc.impls
    rcases idx_find (fun y : ByteArray => decide (h.tag = y)) c.texts 0 with ⟨t1, t2⟩ | ⟨t, tx, t1, t2, t3⟩
    · rw [t1] at hC52
      have e : direct c l fn pc i = none := by
        simp only [direct, if_pos h7, q3, t1]
        split
        · rfl
        · rw [if_neg (by omega)]
      rw [e]
      refine C_intro T_ok (rs := [.cell 10 60, .cell 11 60, .tmp 12]) Try.func40 rfl rfl rfl (Nat.le_of_ble_eq_true rfl) (Nat.le_of_ble_eq_true rfl) rfl ⟨rfl, rfl⟩ rfl fun cx hn => ?_
      have hn : cx.n = 84 := hn
      have Y := And.intro T3 (And.intro T4 (And.intro T9 (And.intro T22 (And.intro T23 (And.intro T24 (And.intro T25 (And.intro T26 (And.intro T27 (And.intro T28 (And.intro T30 (And.intro T38 (And.intro T40 (And.intro T46 (And.intro T48 (And.intro T60 (And.intro T61 (And.intro T63 (And.intro T67 (And.intro T75 (And.intro T77 (And.intro T87 (T115))))))))))))))))))))))
      simp only [enumA, enumO, Nat.reduceAdd]
      have E := And.intro @e7 (And.intro @hk0 (And.intro @hkl ((hintsD_get q2))))
      repeat' first | refine R_nil ?_ | ((with_reducible apply tagG); first | refine qg1 ?_ | refine qg2 ?_ | refine qg3 ?_ | refine qg4 ?_ | refine qg5 ?_ | refine qg6 (fun hb => ?_) (fun hb => ?_)) | ((with_reducible apply tagK); first | ((with_reducible apply tagD); first | refine qd7 [7, 8] (hC60) ?_ | refine qd6 [7, 8] (hC60) ?_ | refine qd5 (hC52) ?_ | refine qd7 [5, 6, 9, 13] (hC43) ?_ | refine qd6 [5, 6, 9, 13] (hC43) ?_) | ((with_reducible apply tagR); first | refine qr7 [7, 8] (hC60) ?_ | refine qr6 [7, 8] (hC60) ?_ | refine qr5 (hC52) ?_ | refine qr7 [5, 6, 9, 13] (hC43) ?_ | refine qr6 [5, 6, 9, 13] (hC43) ?_)) | ((with_reducible apply tagS); first | ((with_reducible apply tagD); first | refine qd1 ?_ | refine qd3 ?_) | ((with_reducible apply tagR); first | refine qr1 ?_ | refine qr3 ?_)) | ((with_reducible apply tagN); first | ((with_reducible apply tagD); first | refine qd2 ?_ | refine qd4 ?_) | ((with_reducible apply tagR); first | refine qr2 ?_ | refine qr4 ?_)) | ((with_reducible apply tagW); first | refine qw1 ?_ | refine qw2 ?_ | refine qw3 ?_ | refine qw4 ?_ | refine qw5 ?_ | refine qw6 (fun hb => ?_) (fun hb => ?_) | refine qw7 ?_ | refine qw8 ?_ | refine qw9 ?_ | refine qw0 ?_) | refine thenQ_n ?_ | refine thenQ_e ?_ | refine thenQ_r ?_ | refine blockQ_n ?_ | refine blockQ_r ?_ | refine blockQ_hit ?_ | refine qb4 ?_ | refine qe ?_ | refine loopQ_e ?_ | refine loopQ_r ?_
      all_goals clear E
      exact finQ_g (G_d []) (ret_a rfl)
    rw [Int.zero_add] at t1
    rw [t1] at hC52
    have ht0 : ¬ (t : Int) < 0 := by omega
    rcases idx_find (fun x : Impl => decide (x.name = s) && decide (x.for_ = h.tag)) c.impls 0 with ⟨n1, n2⟩ | ⟨n, m, n1, n2, n3⟩
    · rw [n1] at hC43
      have e : direct c l fn pc i = none := by simp [direct, q3, textAt, hst, n2]
      rw [e]
      refine C_intro T_ok (rs := [.cell 10 60, .cell 11 60, .tmp 12]) Try.func40 rfl rfl rfl (Nat.le_of_ble_eq_true rfl) (Nat.le_of_ble_eq_true rfl) rfl ⟨rfl, rfl⟩ rfl fun cx hn => ?_
      have hn : cx.n = 84 := hn
      have Y := And.intro T3 (And.intro T4 (And.intro T9 (And.intro T22 (And.intro T23 (And.intro T24 (And.intro T25 (And.intro T26 (And.intro T27 (And.intro T28 (And.intro T30 (And.intro T38 (And.intro T40 (And.intro T46 (And.intro T48 (And.intro T60 (And.intro T61 (And.intro T63 (And.intro T67 (And.intro T75 (And.intro T77 (And.intro T87 (T115))))))))))))))))))))))
      simp only [enumA, enumO, Nat.reduceAdd]
      have E := And.intro @e7 (And.intro @hk0 (And.intro @hkl (And.intro (hintsD_get q2) (And.intro @ht0 (@m1)))))
      repeat' first | refine R_nil ?_ | ((with_reducible apply tagG); first | refine qg1 ?_ | refine qg2 ?_ | refine qg3 ?_ | refine qg4 ?_ | refine qg5 ?_ | refine qg6 (fun hb => ?_) (fun hb => ?_)) | ((with_reducible apply tagK); first | ((with_reducible apply tagD); first | refine qd7 [7, 8] (hC60) ?_ | refine qd6 [7, 8] (hC60) ?_ | refine qd5 (hC52) ?_ | refine qd7 [5, 6, 9, 13] (hC43) ?_ | refine qd6 [5, 6, 9, 13] (hC43) ?_) | ((with_reducible apply tagR); first | refine qr7 [7, 8] (hC60) ?_ | refine qr6 [7, 8] (hC60) ?_ | refine qr5 (hC52) ?_ | refine qr7 [5, 6, 9, 13] (hC43) ?_ | refine qr6 [5, 6, 9, 13] (hC43) ?_)) | ((with_reducible apply tagS); first | ((with_reducible apply tagD); first | refine qd1 ?_ | refine qd3 ?_) | ((with_reducible apply tagR); first | refine qr1 ?_ | refine qr3 ?_)) | ((with_reducible apply tagN); first | ((with_reducible apply tagD); first | refine qd2 ?_ | refine qd4 ?_) | ((with_reducible apply tagR); first | refine qr2 ?_ | refine qr4 ?_)) | ((with_reducible apply tagW); first | refine qw1 ?_ | refine qw2 ?_ | refine qw3 ?_ | refine qw4 ?_ | refine qw5 ?_ | refine qw6 (fun hb => ?_) (fun hb => ?_) | refine qw7 ?_ | refine qw8 ?_ | refine qw9 ?_ | refine qw0 ?_) | refine thenQ_n ?_ | refine thenQ_e ?_ | refine thenQ_r ?_ | refine blockQ_n ?_ | refine blockQ_r ?_ | refine blockQ_hit ?_ | refine qb4 ?_ | refine qe ?_ | refine loopQ_e ?_ | refine loopQ_r ?_
      all_goals clear E
      exact finQ_g (G_d []) (ret_a rfl)
    rw [Int.zero_add] at n1
    rw [n1] at hC43
    have hn0 : ¬ (n : Int) < 0 := by omega
    have hnl : (n : Int) < c.impls.length := by have := (List.getElem?_eq_some_iff.1 n2).1; omega
    have hig := List.all_eq_true.1 himp m (List.mem_of_getElem? n2)
    simp only [implGood, Bool.and_eq_true] at hig
    obtain ⟨g, hg, g0, g1⟩ := wi_get hig.1
    have hpa : paramsAt c m.fn = g.params := by simp [paramsAt, hg]
    cases hp : decide (g.params = (i.args.length : Int)) with
    | false =>
      have e : direct c l fn pc i = none := by
        simp only [direct, if_pos h7, q3, textAt, hst, Option.getD_some, n3]
        rw [if_neg (by rw [hpa]; simp at hp; omega)]
      rw [e]
      refine C_intro T_ok (rs := [.cell 10 60, .cell 11 60, .tmp 12]) Try.func40 rfl rfl rfl (Nat.le_of_ble_eq_true rfl) (Nat.le_of_ble_eq_true rfl) rfl ⟨rfl, rfl⟩ rfl fun cx hn => ?_
      have hn : cx.n = 84 := hn
      have Y := And.intro T3 (And.intro T4 (And.intro T9 (And.intro T22 (And.intro T23 (And.intro T24 (And.intro T25 (And.intro T26 (And.intro T27 (And.intro T28 (And.intro T30 (And.intro T38 (And.intro T40 (And.intro T46 (And.intro T48 (And.intro T60 (And.intro T61 (And.intro T63 (And.intro T67 (And.intro T75 (And.intro T77 (And.intro T87 (T115))))))))))))))))))))))
      simp only [enumA, enumO, Nat.reduceAdd]
      have E := And.intro @e7 (And.intro @hk0 (And.intro @hkl (And.intro (hintsD_get q2) (And.intro @ht0 (And.intro @hn0 (And.intro @hnl (And.intro (implsD_get n2) (And.intro @g0 (And.intro @g1 (And.intro (fns_get hg) (@hp)))))))))))
      repeat' first | refine R_nil ?_ | ((with_reducible apply tagG); first | refine qg1 ?_ | refine qg2 ?_ | refine qg3 ?_ | refine qg4 ?_ | refine qg5 ?_ | refine qg6 (fun hb => ?_) (fun hb => ?_)) | ((with_reducible apply tagK); first | ((with_reducible apply tagD); first | refine qd7 [7, 8] (hC60) ?_ | refine qd6 [7, 8] (hC60) ?_ | refine qd5 (hC52) ?_ | refine qd7 [5, 6, 9, 13] (hC43) ?_ | refine qd6 [5, 6, 9, 13] (hC43) ?_) | ((with_reducible apply tagR); first | refine qr7 [7, 8] (hC60) ?_ | refine qr6 [7, 8] (hC60) ?_ | refine qr5 (hC52) ?_ | refine qr7 [5, 6, 9, 13] (hC43) ?_ | refine qr6 [5, 6, 9, 13] (hC43) ?_)) | ((with_reducible apply tagS); first | ((with_reducible apply tagD); first | refine qd1 ?_ | refine qd3 ?_) | ((with_reducible apply tagR); first | refine qr1 ?_ | refine qr3 ?_)) | ((with_reducible apply tagN); first | ((with_reducible apply tagD); first | refine qd2 ?_ | refine qd4 ?_) | ((with_reducible apply tagR); first | refine qr2 ?_ | refine qr4 ?_)) | ((with_reducible apply tagW); first | refine qw1 ?_ | refine qw2 ?_ | refine qw3 ?_ | refine qw4 ?_ | refine qw5 ?_ | refine qw6 (fun hb => ?_) (fun hb => ?_) | refine qw7 ?_ | refine qw8 ?_ | refine qw9 ?_ | refine qw0 ?_) | refine thenQ_n ?_ | refine thenQ_e ?_ | refine thenQ_r ?_ | refine blockQ_n ?_ | refine blockQ_r ?_ | refine blockQ_hit ?_ | refine qb4 ?_ | refine qe ?_ | refine loopQ_e ?_ | refine loopQ_r ?_
      all_goals clear E
      exact finQ_g (G_d []) (ret_a rfl)
    | true =>
      have e : direct c l fn pc i = some ((t : Int), m.fn) := by
        simp only [direct, if_pos h7, q3, textAt, hst, Option.getD_some, n3, t1]
        rw [if_pos (by rw [hpa]; simp at hp; omega)]
      rw [e]
      have hal0 : (0 : Int) < i.args.length := by omega
      obtain ⟨y, hy⟩ := get_ex hal
      have hyd : i.args.headD 0 = y := by cases hla : i.args with | nil => rw [hla] at hal; simp at hal | cons z l => rw [hla] at hy; simpa using hy
      have z0 : Int.toNat 0 = 0 := rfl
      have d1 : (ints i.args).take i.args.length = ints i.args := take_all _ _ (by omega)
      refine C_intro T_ok (rs := [.cell 10 60, .cell 11 60, .tmp 12]) Try.func40 rfl rfl rfl (Nat.le_of_ble_eq_true rfl) (Nat.le_of_ble_eq_true rfl) rfl ⟨rfl, rfl⟩ rfl fun cx hn => ?_
      have hn : cx.n = 84 := hn
      have Y := And.intro T3 (And.intro T4 (And.intro T9 (And.intro T22 (And.intro T23 (And.intro T24 (And.intro T25 (And.intro T26 (And.intro T27 (And.intro T28 (And.intro T30 (And.intro T38 (And.intro T40 (And.intro T46 (And.intro T48 (And.intro T60 (And.intro T61 (And.intro T63 (And.intro T67 (And.intro T75 (And.intro T77 (And.intro T87 (T115))))))))))))))))))))))
      simp only [enumA, enumO, Nat.reduceAdd]
      have E := And.intro @e7 (And.intro @hk0 (And.intro @hkl (And.intro (hintsD_get q2) (And.intro @ht0 (And.intro @hn0 (And.intro @hnl (And.intro (implsD_get n2) (And.intro @g0 (And.intro @g1 (And.intro (fns_get hg) (And.intro @hp (And.intro @hal0 (And.intro (ints_get hy) (@z0))))))))))))))
      repeat' first | refine R_nil ?_ | ((with_reducible apply tagG); first | refine qg1 ?_ | refine qg2 ?_ | refine qg3 ?_ | refine qg4 ?_ | refine qg5 ?_ | refine qg6 (fun hb => ?_) (fun hb => ?_)) | ((with_reducible apply tagK); first | ((with_reducible apply tagD); first | refine qd7 [7, 8] (hC60) ?_ | refine qd6 [7, 8] (hC60) ?_ | refine qd5 (hC52) ?_ | refine qd7 [5, 6, 9, 13] (hC43) ?_ | refine qd6 [5, 6, 9, 13] (hC43) ?_ | refine qd6 [] (C63 i.args hs) ?_) | ((with_reducible apply tagR); first | refine qr7 [7, 8] (hC60) ?_ | refine qr6 [7, 8] (hC60) ?_ | refine qr5 (hC52) ?_ | refine qr7 [5, 6, 9, 13] (hC43) ?_ | refine qr6 [5, 6, 9, 13] (hC43) ?_ | refine qr6 [] (C63 i.args hs) ?_)) | ((with_reducible apply tagS); first | ((with_reducible apply tagD); first | refine qd1 ?_ | refine qd3 ?_) | ((with_reducible apply tagR); first | refine qr1 ?_ | refine qr3 ?_)) | ((with_reducible apply tagN); first | ((with_reducible apply tagD); first | refine qd2 ?_ | refine qd4 ?_) | ((with_reducible apply tagR); first | refine qr2 ?_ | refine qr4 ?_)) | ((with_reducible apply tagW); first | refine qw1 ?_ | refine qw2 ?_ | refine qw3 ?_ | refine qw4 ?_ | refine qw5 ?_ | refine qw6 (fun hb => ?_) (fun hb => ?_) | refine qw7 ?_ | refine qw8 ?_ | refine qw9 ?_ | refine qw0 ?_) | refine thenQ_n ?_ | refine thenQ_e ?_ | refine thenQ_r ?_ | refine blockQ_n ?_ | refine blockQ_r ?_ | refine blockQ_hit ?_ | refine qb4 ?_ | refine qe ?_ | refine loopQ_e ?_ | refine loopQ_r ?_
      all_goals clear E
      have E := d1
      exact finQ_g (G_d [2656]) (ret_a (by simp only [guardR, guardI, callI, hyd]; rfl))
  · have e7 : decide (i.op = 7) = false := by simp [h7]
    have e : direct c l fn pc i = none := by simp [direct, h7]
    rw [e]
    refine C_intro T_ok (rs := [.cell 10 60, .cell 11 60, .tmp 12]) Try.func40 rfl rfl rfl (Nat.le_of_ble_eq_true rfl) (Nat.le_of_ble_eq_true rfl) rfl ⟨rfl, rfl⟩ rfl fun cx hn => ?_
    have hn : cx.n = 84 := hn
    have Y := And.intro T3 (And.intro T4 (And.intro T9 (And.intro T22 (And.intro T23 (And.intro T24 (And.intro T25 (And.intro T26 (And.intro T27 (And.intro T28 (And.intro T30 (And.intro T38 (And.intro T40 (And.intro T46 (And.intro T48 (And.intro T60 (And.intro T61 (And.intro T63 (And.intro T67 (And.intro T75 (And.intro T77 (And.intro T87 (T115))))))))))))))))))))))
    simp only [enumA, enumO, Nat.reduceAdd]
    have E := @e7
    repeat' first | refine R_nil ?_ | ((with_reducible apply tagG); first | refine qg1 ?_ | refine qg2 ?_ | refine qg3 ?_ | refine qg4 ?_ | refine qg5 ?_ | refine qg6 (fun hb => ?_) (fun hb => ?_)) | ((with_reducible apply tagK); first | ((with_reducible apply tagD); first | refine qd7 [7, 8] (hC60) ?_ | refine qd6 [7, 8] (hC60) ?_) | ((with_reducible apply tagR); first | refine qr7 [7, 8] (hC60) ?_ | refine qr6 [7, 8] (hC60) ?_)) | ((with_reducible apply tagS); first | ((with_reducible apply tagD); first | refine qd1 ?_ | refine qd3 ?_) | ((with_reducible apply tagR); first | refine qr1 ?_ | refine qr3 ?_)) | ((with_reducible apply tagN); first | ((with_reducible apply tagD); first | refine qd2 ?_ | refine qd4 ?_) | ((with_reducible apply tagR); first | refine qr2 ?_ | refine qr4 ?_)) | ((with_reducible apply tagW); first | refine qw1 ?_ | refine qw2 ?_ | refine qw3 ?_ | refine qw4 ?_ | refine qw5 ?_ | refine qw6 (fun hb => ?_) (fun hb => ?_) | refine qw7 ?_ | refine qw8 ?_ | refine qw9 ?_ | refine qw0 ?_) | refine thenQ_n ?_ | refine thenQ_e ?_ | refine thenQ_r ?_ | refine blockQ_n ?_ | refine blockQ_r ?_ | refine blockQ_hit ?_ | refine qb4 ?_ | refine qe ?_ | refine loopQ_e ?_ | refine loopQ_r ?_
    all_goals clear E
    exact finQ_g (G_d []) (ret_a rfl)
end Go.Pw
