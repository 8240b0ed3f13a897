/- Functions: what is wrong with an instruction (2). -/
import Derived.Test.YtppebcfhhoggiaaQF9
set_option linter.unusedVariables false
set_option linter.unusedSimpArgs false
namespace Go.Pw
open Go Go.Proofs
attribute [local irreducible] runL W endD thenQ blockQ loopQ
set_option maxRecDepth 8000
set_option maxHeartbeats 4000000
def insOk (c : Cod) (i : Ins) : Bool :=
  if i.op = 1 then decide (i.b = 1) || (decide (i.b = 3) && wi i.c 2) || (decide (i.b = 2) && wi i.c c.nums.length) || (decide (i.b = 4) && wi i.c c.texts.length)
  else if i.op = 5 then wi i.b 9 && ((decide (i.b = 8) && decide (i.args.length = 1)) || (decide (i.b < 8) && decide (i.args.length = 2)))
  else if i.op = 6 then match c.funs[i.b.toNat]? with | some f => decide (0 ≤ i.b) && decide (f.holds = 0) && decide ((i.args.length : Int) = f.params) | none => false
  else if i.op = 8 then match c.funs[i.b.toNat]? with | some f => decide (0 ≤ i.b) && decide ((i.args.length : Int) = f.holds) | none => false
  else if i.op = 7 then wi i.b c.texts.length && decide (0 < i.args.length)
  else if i.op = 10 ∨ i.op = 17 ∨ i.op = 27 then wi i.b c.texts.length
  else if i.op = 12 then match c.actors[i.b.toNat]? with | some f => decide (0 ≤ i.b) && decide ((i.args.length : Int) = f.states) | none => false
  else if i.op = 11 ∨ i.op = 16 then match c.pats[i.b.toNat]? with | some ps => decide (0 ≤ i.b) && armsB i ps | none => false
  else true
theorem neq_of {i : Ins} {n : Int} (h : i.op = n) : ∀ k : Int, k ≠ n → decide (i.op = k) = false := fun k hk => by rw [h, decide_eq_false_iff_not]; exact fun e => hk e.symm
theorem C71_1 (c : Cod) (f : Fn) (i : Ins) (hs : Sm i.args) (h : i.op = 1) : C Try.prog 71 [c.av, f.av, i.av] [] (dInt (if insOk c i then 0 else 3)) [] [] := by
  have ne := neq_of h
  have e : decide (i.op = 1) = true := by simp [h]
  refine C_intro T_ok (rs := [.tmp 6]) Try.func71 rfl rfl rfl (Nat.le_of_ble_eq_true rfl) (Nat.le_of_ble_eq_true rfl) rfl ⟨rfl, rfl⟩ rfl fun cx hn => ?_
  have hn : cx.n = 206 := hn
  have Y := And.intro T3 (And.intro T4 (And.intro T9 (And.intro T22 (And.intro T23 (And.intro T24 (And.intro T25 (And.intro T26 (And.intro T27 (And.intro T28 (And.intro T30 (And.intro T38 (And.intro T40 (And.intro T60 (And.intro T61 (And.intro T63 (And.intro T67 (And.intro T75 (T77))))))))))))))))))
  simp only [enumA, enumO, Nat.reduceAdd]
  have E := And.intro @e (@ne)
  repeat' first | refine R_nil ?_ | ((with_reducible apply tagG); first | refine qg1 ?_ | refine qg2 ?_ | refine qg3 ?_ | refine qg4 ?_ | refine qg5 ?_ | refine qg6 (fun hb => ?_) (fun hb => ?_)) | ((with_reducible apply tagK); first | ((with_reducible apply tagD); first | refine qd5 (C73 _ _) ?_) | ((with_reducible apply tagR); first | refine qr5 (C73 _ _) ?_)) | ((with_reducible apply tagS); first | ((with_reducible apply tagD); first | refine qd1 ?_ | refine qd3 ?_) | ((with_reducible apply tagR); first | refine qr1 ?_ | refine qr3 ?_)) | ((with_reducible apply tagN); first | ((with_reducible apply tagD); first | refine qd2 ?_ | refine qd4 ?_) | ((with_reducible apply tagR); first | refine qr2 ?_ | refine qr4 ?_)) | ((with_reducible apply tagW); first | refine qw1 ?_ | refine qw2 ?_ | refine qw3 ?_ | refine qw4 ?_ | refine qw5 ?_ | refine qw6 (fun hb => ?_) (fun hb => ?_) | refine qw7 ?_ | refine qw8 ?_ | refine qw9 ?_ | refine qw0 ?_) | refine thenQ_n ?_ | refine thenQ_e ?_ | refine thenQ_r ?_ | refine blockQ_n ?_ | refine blockQ_r ?_ | refine blockQ_hit ?_ | refine qb4 ?_ | refine qe ?_ | refine loopQ_e ?_ | refine loopQ_r ?_
  all_goals clear E
  all_goals exact ret_d rfl (by first | (simp_all [insOk, wi]; done) | (simp_all [insOk, wi]; omega) | (simp_all [insOk, wi]; intros; exfalso; omega))
theorem C71_7 (c : Cod) (f : Fn) (i : Ins) (hs : Sm i.args) (h : i.op = 7) : C Try.prog 71 [c.av, f.av, i.av] [] (dInt (if insOk c i then 0 else 3)) [] [] := by
  have ne := neq_of h
  have e : decide (i.op = 7) = true := by simp [h]
  refine C_intro T_ok (rs := [.tmp 6]) Try.func71 rfl rfl rfl (Nat.le_of_ble_eq_true rfl) (Nat.le_of_ble_eq_true rfl) rfl ⟨rfl, rfl⟩ rfl fun cx hn => ?_
  have hn : cx.n = 206 := hn
  have Y := And.intro T3 (And.intro T4 (And.intro T9 (And.intro T22 (And.intro T23 (And.intro T24 (And.intro T25 (And.intro T26 (And.intro T27 (And.intro T28 (And.intro T30 (And.intro T38 (And.intro T40 (And.intro T60 (And.intro T61 (And.intro T63 (And.intro T67 (And.intro T75 (T77))))))))))))))))))
  simp only [enumA, enumO, Nat.reduceAdd]
  have E := And.intro @e (@ne)
  repeat' first | refine R_nil ?_ | ((with_reducible apply tagG); first | refine qg1 ?_ | refine qg2 ?_ | refine qg3 ?_ | refine qg4 ?_ | refine qg5 ?_ | refine qg6 (fun hb => ?_) (fun hb => ?_)) | ((with_reducible apply tagK); first | ((with_reducible apply tagD); first | refine qd5 (C73 _ _) ?_) | ((with_reducible apply tagR); first | refine qr5 (C73 _ _) ?_)) | ((with_reducible apply tagS); first | ((with_reducible apply tagD); first | refine qd1 ?_ | refine qd3 ?_) | ((with_reducible apply tagR); first | refine qr1 ?_ | refine qr3 ?_)) | ((with_reducible apply tagN); first | ((with_reducible apply tagD); first | refine qd2 ?_ | refine qd4 ?_) | ((with_reducible apply tagR); first | refine qr2 ?_ | refine qr4 ?_)) | ((with_reducible apply tagW); first | refine qw1 ?_ | refine qw2 ?_ | refine qw3 ?_ | refine qw4 ?_ | refine qw5 ?_ | refine qw6 (fun hb => ?_) (fun hb => ?_) | refine qw7 ?_ | refine qw8 ?_ | refine qw9 ?_ | refine qw0 ?_) | refine thenQ_n ?_ | refine thenQ_e ?_ | refine thenQ_r ?_ | refine blockQ_n ?_ | refine blockQ_r ?_ | refine blockQ_hit ?_ | refine qb4 ?_ | refine qe ?_ | refine loopQ_e ?_ | refine loopQ_r ?_
  all_goals clear E
  all_goals exact ret_d rfl (by first | (simp_all [insOk, wi]; done) | (simp_all [insOk, wi]; omega) | (simp_all [insOk, wi]; intros; exfalso; omega))
theorem C71_10 (c : Cod) (f : Fn) (i : Ins) (hs : Sm i.args) (h : i.op = 10) : C Try.prog 71 [c.av, f.av, i.av] [] (dInt (if insOk c i then 0 else 3)) [] [] := by
  have ne := neq_of h
  have e : decide (i.op = 10) = true := by simp [h]
  refine C_intro T_ok (rs := [.tmp 6]) Try.func71 rfl rfl rfl (Nat.le_of_ble_eq_true rfl) (Nat.le_of_ble_eq_true rfl) rfl ⟨rfl, rfl⟩ rfl fun cx hn => ?_
  have hn : cx.n = 206 := hn
  have Y := And.intro T3 (And.intro T4 (And.intro T9 (And.intro T22 (And.intro T23 (And.intro T24 (And.intro T25 (And.intro T26 (And.intro T27 (And.intro T28 (And.intro T30 (And.intro T38 (And.intro T40 (And.intro T60 (And.intro T61 (And.intro T63 (And.intro T67 (And.intro T75 (T77))))))))))))))))))
  simp only [enumA, enumO, Nat.reduceAdd]
  have E := And.intro @e (@ne)
  repeat' first | refine R_nil ?_ | ((with_reducible apply tagG); first | refine qg1 ?_ | refine qg2 ?_ | refine qg3 ?_ | refine qg4 ?_ | refine qg5 ?_ | refine qg6 (fun hb => ?_) (fun hb => ?_)) | ((with_reducible apply tagK); first | ((with_reducible apply tagD); first | refine qd5 (C73 _ _) ?_) | ((with_reducible apply tagR); first | refine qr5 (C73 _ _) ?_)) | ((with_reducible apply tagS); first | ((with_reducible apply tagD); first | refine qd1 ?_ | refine qd3 ?_) | ((with_reducible apply tagR); first | refine qr1 ?_ | refine qr3 ?_)) | ((with_reducible apply tagN); first | ((with_reducible apply tagD); first | refine qd2 ?_ | refine qd4 ?_) | ((with_reducible apply tagR); first | refine qr2 ?_ | refine qr4 ?_)) | ((with_reducible apply tagW); first | refine qw1 ?_ | refine qw2 ?_ | refine qw3 ?_ | refine qw4 ?_ | refine qw5 ?_ | refine qw6 (fun hb => ?_) (fun hb => ?_) | refine qw7 ?_ | refine qw8 ?_ | refine qw9 ?_ | refine qw0 ?_) | refine thenQ_n ?_ | refine thenQ_e ?_ | refine thenQ_r ?_ | refine blockQ_n ?_ | refine blockQ_r ?_ | refine blockQ_hit ?_ | refine qb4 ?_ | refine qe ?_ | refine loopQ_e ?_ | refine loopQ_r ?_
  all_goals clear E
  all_goals exact ret_d rfl (by first | (simp_all [insOk, wi]; done) | (simp_all [insOk, wi]; omega) | (simp_all [insOk, wi]; intros; exfalso; omega))
theorem C71_17 (c : Cod) (f : Fn) (i : Ins) (hs : Sm i.args) (h : i.op = 17) : C Try.prog 71 [c.av, f.av, i.av] [] (dInt (if insOk c i then 0 else 3)) [] [] := by
  have ne := neq_of h
  have e : decide (i.op = 17) = true := by simp [h]
  refine C_intro T_ok (rs := [.tmp 6]) Try.func71 rfl rfl rfl (Nat.le_of_ble_eq_true rfl) (Nat.le_of_ble_eq_true rfl) rfl ⟨rfl, rfl⟩ rfl fun cx hn => ?_
  have hn : cx.n = 206 := hn
  have Y := And.intro T3 (And.intro T4 (And.intro T9 (And.intro T22 (And.intro T23 (And.intro T24 (And.intro T25 (And.intro T26 (And.intro T27 (And.intro T28 (And.intro T30 (And.intro T38 (And.intro T40 (And.intro T60 (And.intro T61 (And.intro T63 (And.intro T67 (And.intro T75 (T77))))))))))))))))))
  simp only [enumA, enumO, Nat.reduceAdd]
  have E := And.intro @e (@ne)
  repeat' first | refine R_nil ?_ | ((with_reducible apply tagG); first | refine qg1 ?_ | refine qg2 ?_ | refine qg3 ?_ | refine qg4 ?_ | refine qg5 ?_ | refine qg6 (fun hb => ?_) (fun hb => ?_)) | ((with_reducible apply tagK); first | ((with_reducible apply tagD); first | refine qd5 (C73 _ _) ?_) | ((with_reducible apply tagR); first | refine qr5 (C73 _ _) ?_)) | ((with_reducible apply tagS); first | ((with_reducible apply tagD); first | refine qd1 ?_ | refine qd3 ?_) | ((with_reducible apply tagR); first | refine qr1 ?_ | refine qr3 ?_)) | ((with_reducible apply tagN); first | ((with_reducible apply tagD); first | refine qd2 ?_ | refine qd4 ?_) | ((with_reducible apply tagR); first | refine qr2 ?_ | refine qr4 ?_)) | ((with_reducible apply tagW); first | refine qw1 ?_ | refine qw2 ?_ | refine qw3 ?_ | refine qw4 ?_ | refine qw5 ?_ | refine qw6 (fun hb => ?_) (fun hb => ?_) | refine qw7 ?_ | refine qw8 ?_ | refine qw9 ?_ | refine qw0 ?_) | refine thenQ_n ?_ | refine thenQ_e ?_ | refine thenQ_r ?_ | refine blockQ_n ?_ | refine blockQ_r ?_ | refine blockQ_hit ?_ | refine qb4 ?_ | refine qe ?_ | refine loopQ_e ?_ | refine loopQ_r ?_
  all_goals clear E
  all_goals exact ret_d rfl (by first | (simp_all [insOk, wi]; done) | (simp_all [insOk, wi]; omega) | (simp_all [insOk, wi]; intros; exfalso; omega))
theorem C71_27 (c : Cod) (f : Fn) (i : Ins) (hs : Sm i.args) (h : i.op = 27) : C Try.prog 71 [c.av, f.av, i.av] [] (dInt (if insOk c i then 0 else 3)) [] [] := by
  have ne := neq_of h
  have e : decide (i.op = 27) = true := by simp [h]
  refine C_intro T_ok (rs := [.tmp 6]) Try.func71 rfl rfl rfl (Nat.le_of_ble_eq_true rfl) (Nat.le_of_ble_eq_true rfl) rfl ⟨rfl, rfl⟩ rfl fun cx hn => ?_
  have hn : cx.n = 206 := hn
  have Y := And.intro T3 (And.intro T4 (And.intro T9 (And.intro T22 (And.intro T23 (And.intro T24 (And.intro T25 (And.intro T26 (And.intro T27 (And.intro T28 (And.intro T30 (And.intro T38 (And.intro T40 (And.intro T60 (And.intro T61 (And.intro T63 (And.intro T67 (And.intro T75 (T77))))))))))))))))))
  simp only [enumA, enumO, Nat.reduceAdd]
  have E := And.intro @e (@ne)
  repeat' first | refine R_nil ?_ | ((with_reducible apply tagG); first | refine qg1 ?_ | refine qg2 ?_ | refine qg3 ?_ | refine qg4 ?_ | refine qg5 ?_ | refine qg6 (fun hb => ?_) (fun hb => ?_)) | ((with_reducible apply tagK); first | ((with_reducible apply tagD); first | refine qd5 (C73 _ _) ?_) | ((with_reducible apply tagR); first | refine qr5 (C73 _ _) ?_)) | ((with_reducible apply tagS); first | ((with_reducible apply tagD); first | refine qd1 ?_ | refine qd3 ?_) | ((with_reducible apply tagR); first | refine qr1 ?_ | refine qr3 ?_)) | ((with_reducible apply tagN); first | ((with_reducible apply tagD); first | refine qd2 ?_ | refine qd4 ?_) | ((with_reducible apply tagR); first | refine qr2 ?_ | refine qr4 ?_)) | ((with_reducible apply tagW); first | refine qw1 ?_ | refine qw2 ?_ | refine qw3 ?_ | refine qw4 ?_ | refine qw5 ?_ | refine qw6 (fun hb => ?_) (fun hb => ?_) | refine qw7 ?_ | refine qw8 ?_ | refine qw9 ?_ | refine qw0 ?_) | refine thenQ_n ?_ | refine thenQ_e ?_ | refine thenQ_r ?_ | refine blockQ_n ?_ | refine blockQ_r ?_ | refine blockQ_hit ?_ | refine qb4 ?_ | refine qe ?_ | refine loopQ_e ?_ | refine loopQ_r ?_
  all_goals clear E
  all_goals exact ret_d rfl (by first | (simp_all [insOk, wi]; done) | (simp_all [insOk, wi]; omega) | (simp_all [insOk, wi]; intros; exfalso; omega))
end Go.Pw
