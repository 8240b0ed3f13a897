/- Functions: all functions compiled again. -/
import Derived.Test.YtppebcfhhoggiaaQF25
set_option linter.unusedVariables false
set_option linter.unusedSimpArgs false
namespace Go.Pw
open Go Go.Proofs
attribute [local irreducible] runL W endD thenQ blockQ loopQ
set_option maxRecDepth 8000
set_option maxHeartbeats 16000000
theorem C10e (c : Cod) (fn : Int) (l : List Hint) (hc : c.Ok) (h0 : codErr c ≠ 0) : C Try.prog 10 [c.av, dInt fn, .d (.sl (hintsD l))] [] (.tup [Fn.zero.av, dInt (codErr c)]) [] [] := by
  have hC39 := C39 c hc
  have e0 : decide (codErr c = 0) = false := by simp [h0]
  refine C_intro T_ok (rs := [.cell 6 40, .tmp 7]) Try.func10 rfl rfl rfl (Nat.le_of_ble_eq_true rfl) (Nat.le_of_ble_eq_true rfl) rfl ⟨rfl, rfl⟩ rfl fun cx hn => ?_
  have hn : cx.n = 111 := hn
  have Y := And.intro T3 (And.intro T4 (And.intro T9 (And.intro T22 (And.intro T23 (And.intro T24 (And.intro T25 (And.intro T26 (And.intro T27 (And.intro T28 (And.intro T30 (And.intro T36 (And.intro T38 (And.intro T40 (And.intro T46 (And.intro T48 (And.intro T60 (And.intro T61 (And.intro T63 (And.intro T67 (And.intro T75 (And.intro T77 (T85))))))))))))))))))))))
  simp only [enumA, enumO, Nat.reduceAdd]
  have E := @e0
  repeat' first | refine R_nil ?_ | ((with_reducible apply tagG); first | refine qg1 ?_ | refine qg2 ?_ | refine qg3 ?_ | refine qg4 ?_ | refine qg5 ?_ | refine qg6 (fun hb => ?_) (fun hb => ?_)) | ((with_reducible apply tagK); first | ((with_reducible apply tagD); first | refine qd5 (hC39) ?_) | ((with_reducible apply tagR); first | refine qr5 (hC39) ?_)) | ((with_reducible apply tagS); first | ((with_reducible apply tagD); first | refine qd1 ?_ | refine qd3 ?_) | ((with_reducible apply tagR); first | refine qr1 ?_ | refine qr3 ?_)) | ((with_reducible apply tagN); first | ((with_reducible apply tagD); first | refine qd2 ?_ | refine qd4 ?_) | ((with_reducible apply tagR); first | refine qr2 ?_ | refine qr4 ?_)) | ((with_reducible apply tagW); first | refine qw1 ?_ | refine qw2 ?_ | refine qw3 ?_ | refine qw4 ?_ | refine qw5 ?_ | refine qw6 (fun hb => ?_) (fun hb => ?_) | refine qw7 ?_ | refine qw8 ?_ | refine qw9 ?_ | refine qw0 ?_) | refine thenQ_n ?_ | refine thenQ_e ?_ | refine thenQ_r ?_ | refine blockQ_n ?_ | refine blockQ_r ?_ | refine blockQ_hit ?_ | refine qb4 ?_ | refine qe ?_ | refine loopQ_e ?_ | refine loopQ_r ?_
  all_goals clear E
  exact finQ_g (G_d []) (ret_a rfl)
theorem C10n (c : Cod) (fn : Int) (l : List Hint) (hc : c.Ok) (h0 : codErr c = 0) (hw : wi fn c.funs.length = false) : C Try.prog 10 [c.av, dInt fn, .d (.sl (hintsD l))] [] (.tup [Fn.zero.av, dInt 4]) [] [] := by
  have hC39 := C39 c hc
  rw [h0] at hC39
  rcases wi_cases hw with h | ⟨h, h'⟩
  · refine C_intro T_ok (rs := [.cell 6 40, .tmp 7]) Try.func10 rfl rfl rfl (Nat.le_of_ble_eq_true rfl) (Nat.le_of_ble_eq_true rfl) rfl ⟨rfl, rfl⟩ rfl fun cx hn => ?_
    have hn : cx.n = 111 := hn
    have Y := And.intro T3 (And.intro T4 (And.intro T9 (And.intro T22 (And.intro T23 (And.intro T24 (And.intro T25 (And.intro T26 (And.intro T27 (And.intro T28 (And.intro T30 (And.intro T36 (And.intro T38 (And.intro T40 (And.intro T46 (And.intro T48 (And.intro T60 (And.intro T61 (And.intro T63 (And.intro T67 (And.intro T75 (And.intro T77 (T85))))))))))))))))))))))
    simp only [enumA, enumO, Nat.reduceAdd]
    have E := @h
    repeat' first | refine R_nil ?_ | ((with_reducible apply tagG); first | refine qg1 ?_ | refine qg2 ?_ | refine qg3 ?_ | refine qg4 ?_ | refine qg5 ?_ | refine qg6 (fun hb => ?_) (fun hb => ?_)) | ((with_reducible apply tagK); first | ((with_reducible apply tagD); first | refine qd5 (hC39) ?_) | ((with_reducible apply tagR); first | refine qr5 (hC39) ?_)) | ((with_reducible apply tagS); first | ((with_reducible apply tagD); first | refine qd1 ?_ | refine qd3 ?_) | ((with_reducible apply tagR); first | refine qr1 ?_ | refine qr3 ?_)) | ((with_reducible apply tagN); first | ((with_reducible apply tagD); first | refine qd2 ?_ | refine qd4 ?_) | ((with_reducible apply tagR); first | refine qr2 ?_ | refine qr4 ?_)) | ((with_reducible apply tagW); first | refine qw1 ?_ | refine qw2 ?_ | refine qw3 ?_ | refine qw4 ?_ | refine qw5 ?_ | refine qw6 (fun hb => ?_) (fun hb => ?_) | refine qw7 ?_ | refine qw8 ?_ | refine qw9 ?_ | refine qw0 ?_) | refine thenQ_n ?_ | refine thenQ_e ?_ | refine thenQ_r ?_ | refine blockQ_n ?_ | refine blockQ_r ?_ | refine blockQ_hit ?_ | refine qb4 ?_ | refine qe ?_ | refine loopQ_e ?_ | refine loopQ_r ?_
    all_goals clear E
    exact finQ_g (G_d []) (ret_a rfl)
  · refine C_intro T_ok (rs := [.cell 6 40, .tmp 7]) Try.func10 rfl rfl rfl (Nat.le_of_ble_eq_true rfl) (Nat.le_of_ble_eq_true rfl) rfl ⟨rfl, rfl⟩ rfl fun cx hn => ?_
    have hn : cx.n = 111 := hn
    have Y := And.intro T3 (And.intro T4 (And.intro T9 (And.intro T22 (And.intro T23 (And.intro T24 (And.intro T25 (And.intro T26 (And.intro T27 (And.intro T28 (And.intro T30 (And.intro T36 (And.intro T38 (And.intro T40 (And.intro T46 (And.intro T48 (And.intro T60 (And.intro T61 (And.intro T63 (And.intro T67 (And.intro T75 (And.intro T77 (T85))))))))))))))))))))))
    simp only [enumA, enumO, Nat.reduceAdd]
    have E := And.intro @h (@h')
    repeat' first | refine R_nil ?_ | ((with_reducible apply tagG); first | refine qg1 ?_ | refine qg2 ?_ | refine qg3 ?_ | refine qg4 ?_ | refine qg5 ?_ | refine qg6 (fun hb => ?_) (fun hb => ?_)) | ((with_reducible apply tagK); first | ((with_reducible apply tagD); first | refine qd5 (hC39) ?_) | ((with_reducible apply tagR); first | refine qr5 (hC39) ?_)) | ((with_reducible apply tagS); first | ((with_reducible apply tagD); first | refine qd1 ?_ | refine qd3 ?_) | ((with_reducible apply tagR); first | refine qr1 ?_ | refine qr3 ?_)) | ((with_reducible apply tagN); first | ((with_reducible apply tagD); first | refine qd2 ?_ | refine qd4 ?_) | ((with_reducible apply tagR); first | refine qr2 ?_ | refine qr4 ?_)) | ((with_reducible apply tagW); first | refine qw1 ?_ | refine qw2 ?_ | refine qw3 ?_ | refine qw4 ?_ | refine qw5 ?_ | refine qw6 (fun hb => ?_) (fun hb => ?_) | refine qw7 ?_ | refine qw8 ?_ | refine qw9 ?_ | refine qw0 ?_) | refine thenQ_n ?_ | refine thenQ_e ?_ | refine thenQ_r ?_ | refine blockQ_n ?_ | refine blockQ_r ?_ | refine blockQ_hit ?_ | refine qb4 ?_ | refine qe ?_ | refine loopQ_e ?_ | refine loopQ_r ?_
    all_goals clear E
    exact finQ_g (G_d []) (ret_a rfl)
def fastAt (c : Cod) (l : List Hint) (k : Nat) : Fn := fastOf c l k ((c.funs[k]?).getD Fn.zero)
def allOf (c : Cod) (l : List Hint) : List Fn := (List.range c.funs.length).map (fastAt c l)
theorem fns_take (l : List Fn) : (fns l).take l.length = fns l := List.take_of_length_le (by rw [fns_len]; omega)
theorem fns_app (l : List Fn) (x : Fn) : fns l ++ [[DS x.name, DI x.params, DI x.holds, DI x.regs, D.sl (inss x.ins)]] = fns (l ++ [x]) := by simp [fns, Fn.row]
theorem C11 (c : Cod) (l : List Hint) (hc : c.Ok) (hl : Sm l) (h0 : codErr c = 0) (hsm : ∀ f ∈ c.funs, ∀ i ∈ f.ins, i.args.length ≤ 1048576) :
    C Try.prog 11 [c.av, .d (.sl (hintsD l))] [] (.tup [.d (.sl (fns (allOf c l))), dInt 0]) [] [] := by
  have hl1 : c.funs.length ≤ 1000 := by
    have := (good_of h0).large
    simp only [codLarge, Bool.or_eq_false_iff, decide_eq_false_iff_not] at this; omega
  refine C_intro T_ok (rs := [.tmp 4, .tmp 5]) Try.func11 rfl rfl rfl (Nat.le_of_ble_eq_true rfl) (Nat.le_of_ble_eq_true rfl) rfl ⟨rfl, rfl⟩ rfl fun cx hn => ?_
  have hn : cx.n = 32 := hn
  have Y := And.intro T3 (And.intro T4 (And.intro T9 (And.intro T22 (And.intro T23 (And.intro T24 (And.intro T25 (And.intro T26 (And.intro T27 (And.intro T28 (And.intro T30 (And.intro T36 (And.intro T38 (And.intro T40 (And.intro T46 (And.intro T48 (And.intro T60 (And.intro T61 (And.intro T63 (And.intro T67 (And.intro T75 (T77)))))))))))))))))))))
  simp only [enumA, enumO, Nat.reduceAdd]
  repeat' first | refine R_nil ?_ | ((with_reducible apply tagG); first | refine qg1 ?_ | refine qg2 ?_ | refine qg3 ?_ | refine qg4 ?_ | refine qg5 ?_ | refine qg6 (fun hb => ?_) (fun hb => ?_)) | ((with_reducible apply tagS); first | ((with_reducible apply tagD); first | refine qd1 ?_ | refine qd3 ?_) | ((with_reducible apply tagR); first | refine qr1 ?_ | refine qr3 ?_)) | ((with_reducible apply tagN); first | ((with_reducible apply tagD); first | refine qd2 ?_ | refine qd4 ?_) | ((with_reducible apply tagR); first | refine qr2 ?_ | refine qr4 ?_)) | ((with_reducible apply tagW); first | refine qw1 ?_ | refine qw2 ?_ | refine qw3 ?_ | refine qw4 ?_ | refine qw5 ?_ | refine qw6 (fun hb => ?_) (fun hb => ?_) | refine qw7 ?_ | refine qw8 ?_ | refine qw9 ?_ | refine qw0 ?_) | refine thenQ_n ?_ | refine thenQ_e ?_ | refine thenQ_r ?_ | refine blockQ_n ?_ | refine blockQ_r ?_ | refine blockQ_hit ?_ | refine qb4 ?_ | refine qe ?_ | refine loopQ_e ?_ | refine loopQ_r ?_
  refine W_ghost (G_adopt 6 29 5 rfl rfl (.inr (by decide))) ?_
  refine W_loopQ (fun k : Nat => [(13, dInt k), (12, dInt c.funs.length), (6, .ref 29 0 k), (2, .ptr 2 0 0), (1, .d (.sl (hintsD l)))]) (fun k => [(29, some (.row 5 (fns ((List.range k).map (fastAt c l))))), (2, some (.box c.cells))]) (fun k => c.funs.length - k) (fun k => k ≤ c.funs.length) 0 (by omega) qs fun k hk => ?_
  by_cases hkl : k < c.funs.length
  · obtain ⟨x, hx⟩ := get_ex hkl
    have hk1 : (k:Int) < c.funs.length := by omega
    have hC10 := C10 c x k l hc hl h0 (by simp [wi]; omega) (by simpa using hx) (hsm x (List.mem_of_getElem? hx))
    have hfx : fastOf c l k x = fastAt c l k := by simp [fastAt, hx]
    rw [hfx] at hC10
    have e1 := fns_take ((List.range k).map (fastAt c l))
    rw [List.length_map, List.length_range] at e1
    have e2 := fns_app ((List.range k).map (fastAt c l)) (fastAt c l k)
    have e3 : (List.range (k + 1)).map (fastAt c l) = (List.range k).map (fastAt c l) ++ [fastAt c l k] := by rw [List.range_succ, List.map_append]; rfl
    rw [← e3] at e2
    have e4 : ((List.range (k + 1)).map (fastAt c l)).length = k + 1 := by simp
    have e5 : (fns ((List.range k).map (fastAt c l))).length = k := by simp [fns]
    generalize fastAt c l k = g at *
    have E := And.intro @hk1 (And.intro (fns_get hx) (And.intro @e1 (And.intro @e2 (@e4))))
    repeat' first | refine R_nil ?_ | ((with_reducible apply tagG); first | refine qg1 ?_ | refine qg2 ?_ | refine qg3 ?_ | refine qg4 ?_ | refine qg5 ?_ | refine qg6 (fun hb => ?_) (fun hb => ?_)) | ((with_reducible apply tagK); first | ((with_reducible apply tagD); first | refine qd5 (hC10) ?_) | ((with_reducible apply tagR); first | refine qr5 (hC10) ?_)) | ((with_reducible apply tagS); first | ((with_reducible apply tagD); first | refine qd1 ?_ | refine qd3 ?_) | ((with_reducible apply tagR); first | refine qr1 ?_ | refine qr3 ?_)) | ((with_reducible apply tagN); first | ((with_reducible apply tagD); first | refine qd2 ?_ | refine qd4 ?_) | ((with_reducible apply tagR); first | refine qr2 ?_ | refine qr4 ?_)) | ((with_reducible apply tagW); first | refine qw1 ?_ | refine qw2 ?_ | refine qw3 ?_ | refine qw4 ?_ | refine qw5 ?_ | refine qw6 (fun hb => ?_) (fun hb => ?_) | refine qw7 ?_ | refine qw8 ?_ | refine qw9 ?_ | refine qw0 ?_) | refine thenQ_n ?_ | refine thenQ_e ?_ | refine thenQ_r ?_ | refine blockQ_n ?_ | refine blockQ_r ?_ | refine blockQ_hit ?_ | refine qb4 ?_ | refine qe ?_ | refine loopQ_e ?_ | refine loopQ_r ?_
    all_goals clear E
    refine loopQ_n (k + 1) (by omega) (by omega) (by have E := e4; exact qs)
  · have hk0 : ¬ (k:Int) < c.funs.length := by omega
    have ek : k = c.funs.length := by omega
    subst ek
    have e1 := fns_take ((List.range c.funs.length).map (fastAt c l))
    rw [List.length_map, List.length_range] at e1
    have E := @hk0
    repeat' first | refine R_nil ?_ | ((with_reducible apply tagG); first | refine qg1 ?_ | refine qg2 ?_ | refine qg3 ?_ | refine qg4 ?_ | refine qg5 ?_ | refine qg6 (fun hb => ?_) (fun hb => ?_)) | ((with_reducible apply tagS); first | ((with_reducible apply tagD); first | refine qd1 ?_ | refine qd3 ?_) | ((with_reducible apply tagR); first | refine qr1 ?_ | refine qr3 ?_)) | ((with_reducible apply tagN); first | ((with_reducible apply tagD); first | refine qd2 ?_ | refine qd4 ?_) | ((with_reducible apply tagR); first | refine qr2 ?_ | refine qr4 ?_)) | ((with_reducible apply tagW); first | refine qw1 ?_ | refine qw2 ?_ | refine qw3 ?_ | refine qw4 ?_ | refine qw5 ?_ | refine qw6 (fun hb => ?_) (fun hb => ?_) | refine qw7 ?_ | refine qw8 ?_ | refine qw9 ?_ | refine qw0 ?_) | refine thenQ_n ?_ | refine thenQ_e ?_ | refine thenQ_r ?_ | refine blockQ_n ?_ | refine blockQ_r ?_ | refine blockQ_hit ?_ | refine qb4 ?_ | refine qe ?_ | refine loopQ_e ?_ | refine loopQ_r ?_
    all_goals clear E
    have E := e1
    exact finQ_g (G_d [29]) (ret_a rfl)
theorem C11e (c : Cod) (l : List Hint) (hc : c.Ok) (h0 : codErr c ≠ 0) : C Try.prog 11 [c.av, .d (.sl (hintsD l))] [] (.tup [.d (.sl []), dInt (if c.funs.length = 0 then 0 else codErr c)]) [] [] := by
  have e0 : decide (codErr c = 0) = false := by simp [h0]
  refine C_intro T_ok (rs := [.tmp 4, .tmp 5]) Try.func11 rfl rfl rfl (Nat.le_of_ble_eq_true rfl) (Nat.le_of_ble_eq_true rfl) rfl ⟨rfl, rfl⟩ rfl fun cx hn => ?_
  have hn : cx.n = 32 := hn
  have Y := And.intro T3 (And.intro T4 (And.intro T9 (And.intro T22 (And.intro T23 (And.intro T24 (And.intro T25 (And.intro T26 (And.intro T27 (And.intro T28 (And.intro T30 (And.intro T36 (And.intro T38 (And.intro T40 (And.intro T46 (And.intro T48 (And.intro T60 (And.intro T61 (And.intro T63 (And.intro T67 (And.intro T75 (T77)))))))))))))))))))))
  simp only [enumA, enumO, Nat.reduceAdd]
  repeat' first | refine R_nil ?_ | ((with_reducible apply tagG); first | refine qg1 ?_ | refine qg2 ?_ | refine qg3 ?_ | refine qg4 ?_ | refine qg5 ?_ | refine qg6 (fun hb => ?_) (fun hb => ?_)) | ((with_reducible apply tagS); first | ((with_reducible apply tagD); first | refine qd1 ?_ | refine qd3 ?_) | ((with_reducible apply tagR); first | refine qr1 ?_ | refine qr3 ?_)) | ((with_reducible apply tagN); first | ((with_reducible apply tagD); first | refine qd2 ?_ | refine qd4 ?_) | ((with_reducible apply tagR); first | refine qr2 ?_ | refine qr4 ?_)) | ((with_reducible apply tagW); first | refine qw1 ?_ | refine qw2 ?_ | refine qw3 ?_ | refine qw4 ?_ | refine qw5 ?_ | refine qw6 (fun hb => ?_) (fun hb => ?_) | refine qw7 ?_ | refine qw8 ?_ | refine qw9 ?_ | refine qw0 ?_) | refine thenQ_n ?_ | refine thenQ_e ?_ | refine thenQ_r ?_ | refine blockQ_n ?_ | refine blockQ_r ?_ | refine blockQ_hit ?_ | refine qb4 ?_ | refine qe ?_ | refine loopQ_e ?_ | refine loopQ_r ?_
  refine W_loopQ (fun k : Nat => [(13, dInt k), (12, dInt c.funs.length), (6, .full []), (2, .ptr 2 0 0), (1, .d (.sl (hintsD l)))]) (fun k => [(2, some (.box c.cells))]) (fun k => c.funs.length - k) (fun k => k = 0) 0 rfl qs fun k hk => ?_
  subst hk
  by_cases hkl : 0 < c.funs.length
  · have hk1 : (0:Int) < c.funs.length := by omega
    have hk2 : ((0 : Nat) : Int) = 0 := rfl
    rw [if_neg (by omega)]
    have E := And.intro @hk1 (And.intro @hk2 (@e0))
    repeat' first | refine R_nil ?_ | ((with_reducible apply tagG); first | refine qg1 ?_ | refine qg2 ?_ | refine qg3 ?_ | refine qg4 ?_ | refine qg5 ?_ | refine qg6 (fun hb => ?_) (fun hb => ?_)) | ((with_reducible apply tagK); first | ((with_reducible apply tagD); first | refine qd5 (C10e c 0 l hc h0) ?_) | ((with_reducible apply tagR); first | refine qr5 (C10e c 0 l hc h0) ?_)) | ((with_reducible apply tagS); first | ((with_reducible apply tagD); first | refine qd1 ?_ | refine qd3 ?_) | ((with_reducible apply tagR); first | refine qr1 ?_ | refine qr3 ?_)) | ((with_reducible apply tagN); first | ((with_reducible apply tagD); first | refine qd2 ?_ | refine qd4 ?_) | ((with_reducible apply tagR); first | refine qr2 ?_ | refine qr4 ?_)) | ((with_reducible apply tagW); first | refine qw1 ?_ | refine qw2 ?_ | refine qw3 ?_ | refine qw4 ?_ | refine qw5 ?_ | refine qw6 (fun hb => ?_) (fun hb => ?_) | refine qw7 ?_ | refine qw8 ?_ | refine qw9 ?_ | refine qw0 ?_) | refine thenQ_n ?_ | refine thenQ_e ?_ | refine thenQ_r ?_ | refine blockQ_n ?_ | refine blockQ_r ?_ | refine blockQ_hit ?_ | refine qb4 ?_ | refine qe ?_ | refine loopQ_e ?_ | refine loopQ_r ?_
    all_goals clear E
    exact finQ_g (G_d []) (ret_a rfl)
  · have hk0 : ¬ (0:Int) < c.funs.length := by omega
    have hk2 : ((0 : Nat) : Int) = 0 := rfl
    rw [if_pos (by omega)]
    have E := And.intro @hk0 (@hk2)
    repeat' first | refine R_nil ?_ | ((with_reducible apply tagG); first | refine qg1 ?_ | refine qg2 ?_ | refine qg3 ?_ | refine qg4 ?_ | refine qg5 ?_ | refine qg6 (fun hb => ?_) (fun hb => ?_)) | ((with_reducible apply tagS); first | ((with_reducible apply tagD); first | refine qd1 ?_ | refine qd3 ?_) | ((with_reducible apply tagR); first | refine qr1 ?_ | refine qr3 ?_)) | ((with_reducible apply tagN); first | ((with_reducible apply tagD); first | refine qd2 ?_ | refine qd4 ?_) | ((with_reducible apply tagR); first | refine qr2 ?_ | refine qr4 ?_)) | ((with_reducible apply tagW); first | refine qw1 ?_ | refine qw2 ?_ | refine qw3 ?_ | refine qw4 ?_ | refine qw5 ?_ | refine qw6 (fun hb => ?_) (fun hb => ?_) | refine qw7 ?_ | refine qw8 ?_ | refine qw9 ?_ | refine qw0 ?_) | refine thenQ_n ?_ | refine thenQ_e ?_ | refine thenQ_r ?_ | refine blockQ_n ?_ | refine blockQ_r ?_ | refine blockQ_hit ?_ | refine qb4 ?_ | refine qe ?_ | refine loopQ_e ?_ | refine loopQ_r ?_
    all_goals clear E
    exact finQ_g (G_d []) (ret_a rfl)
theorem C14d (l : List Hint) (b : Bool) (hl : l.length ≤ 16777216) : C Try.prog 14 [slA b (hintsD l)] [] (.d (.sl (hintsD l))) [] [] := by
  rcases bool2 b with hbb | hbb
  all_goals
    refine C_intro T_ok (rs := [.tmp 2]) Try.func14 rfl rfl rfl (Nat.le_of_ble_eq_true rfl) (Nat.le_of_ble_eq_true rfl) rfl ⟨rfl, rfl⟩ rfl fun cx hn => ?_
    have hn : cx.n = 24 := hn
    have Y := And.intro T3 (And.intro T9 (And.intro T46 (And.intro T48 (And.intro T51 (T88)))))
    simp only [enumA, enumO, Nat.reduceAdd]
    have E := @hbb
    repeat' first | refine R_nil ?_ | ((with_reducible apply tagG); first | refine qg1 ?_ | refine qg2 ?_ | refine qg3 ?_ | refine qg4 ?_ | refine qg5 ?_ | refine qg6 (fun hb => ?_) (fun hb => ?_)) | ((with_reducible apply tagS); first | ((with_reducible apply tagD); first | refine qd1 ?_ | refine qd3 ?_) | ((with_reducible apply tagR); first | refine qr1 ?_ | refine qr3 ?_)) | ((with_reducible apply tagN); first | ((with_reducible apply tagD); first | refine qd2 ?_ | refine qd4 ?_) | ((with_reducible apply tagR); first | refine qr2 ?_ | refine qr4 ?_)) | ((with_reducible apply tagW); first | refine qw1 ?_ | refine qw2 ?_ | refine qw3 ?_ | refine qw4 ?_ | refine qw5 ?_ | refine qw6 (fun hb => ?_) (fun hb => ?_) | refine qw7 ?_ | refine qw8 ?_ | refine qw9 ?_ | refine qw0 ?_) | refine thenQ_n ?_ | refine thenQ_e ?_ | refine thenQ_r ?_ | refine blockQ_n ?_ | refine blockQ_r ?_ | refine blockQ_hit ?_ | refine qb4 ?_ | refine qe ?_ | refine loopQ_e ?_ | refine loopQ_r ?_
    all_goals clear E
    refine W_ghost (G_adopt 3 21 3 rfl rfl (.inr (by decide))) ?_
    refine W_loopQ (fun i : Nat => [(8, dInt i), (7, dInt l.length), (6, slA b (hintsD l)), (3, .ref 21 0 (l.take i).length)]) (fun i => [(21, some (.row 3 (hintsD (l.take i))))]) (fun i => l.length - i) (fun i => i ≤ l.length) 0 (by omega) (by have E := @hbb; exact qs) fun i hi => ?_
    by_cases h : i < l.length
    · obtain ⟨x, hx⟩ := get_ex h
      have h1 : (i:Int) < l.length := by omega
      have e1 : l.take (i + 1) = l.take i ++ [x] := by rw [List.take_add_one, hx]; rfl
      have hA : (l.take i).length ≤ 16777216 := by rw [List.length_take]; omega
      generalize l.take i = A at *
      have d1 : (hintsD A).take A.length = hintsD A := List.take_of_length_le (by rw [hintsD_len]; omega)
      have d2 : hintsD A ++ [[DI x.fn, DI x.pc, DS x.tag]] = hintsD (A ++ [x]) := by simp [hintsD, Hint.row]
      have E := And.intro @h1 (And.intro (hintsD_get hx) (And.intro @hbb (And.intro @d1 (@d2))))
      repeat' first | refine R_nil ?_ | ((with_reducible apply tagG); first | refine qg1 ?_ | refine qg2 ?_ | refine qg3 ?_ | refine qg4 ?_ | refine qg5 ?_ | refine qg6 (fun hb => ?_) (fun hb => ?_)) | ((with_reducible apply tagS); first | ((with_reducible apply tagD); first | refine qd1 ?_ | refine qd3 ?_) | ((with_reducible apply tagR); first | refine qr1 ?_ | refine qr3 ?_)) | ((with_reducible apply tagN); first | ((with_reducible apply tagD); first | refine qd2 ?_ | refine qd4 ?_) | ((with_reducible apply tagR); first | refine qr2 ?_ | refine qr4 ?_)) | ((with_reducible apply tagW); first | refine qw1 ?_ | refine qw2 ?_ | refine qw3 ?_ | refine qw4 ?_ | refine qw5 ?_ | refine qw6 (fun hb => ?_) (fun hb => ?_) | refine qw7 ?_ | refine qw8 ?_ | refine qw9 ?_ | refine qw0 ?_) | refine thenQ_n ?_ | refine thenQ_e ?_ | refine thenQ_r ?_ | refine blockQ_n ?_ | refine blockQ_r ?_ | refine blockQ_hit ?_ | refine qb4 ?_ | refine qe ?_ | refine loopQ_e ?_ | refine loopQ_r ?_
      all_goals clear E
      refine loopQ_n (i + 1) (by omega) (by omega) (by rw [e1]; have E := @hbb; exact qs)
    · have h1 : ¬ (i:Int) < l.length := by omega
      have E := And.intro @h1 (@hbb)
      repeat' first | refine R_nil ?_ | ((with_reducible apply tagG); first | refine qg1 ?_ | refine qg2 ?_ | refine qg3 ?_ | refine qg4 ?_ | refine qg5 ?_ | refine qg6 (fun hb => ?_) (fun hb => ?_)) | ((with_reducible apply tagS); first | ((with_reducible apply tagD); first | refine qd1 ?_ | refine qd3 ?_) | ((with_reducible apply tagR); first | refine qr1 ?_ | refine qr3 ?_)) | ((with_reducible apply tagN); first | ((with_reducible apply tagD); first | refine qd2 ?_ | refine qd4 ?_) | ((with_reducible apply tagR); first | refine qr2 ?_ | refine qr4 ?_)) | ((with_reducible apply tagW); first | refine qw1 ?_ | refine qw2 ?_ | refine qw3 ?_ | refine qw4 ?_ | refine qw5 ?_ | refine qw6 (fun hb => ?_) (fun hb => ?_) | refine qw7 ?_ | refine qw8 ?_ | refine qw9 ?_ | refine qw0 ?_) | refine thenQ_n ?_ | refine thenQ_e ?_ | refine thenQ_r ?_ | refine blockQ_n ?_ | refine blockQ_r ?_ | refine blockQ_hit ?_ | refine qb4 ?_ | refine qe ?_ | refine loopQ_e ?_ | refine loopQ_r ?_
      all_goals clear E
      have e : l.take i = l := List.take_of_length_le (by omega)
      exact ret_ref rfl rfl rfl (by rw [e, List.drop_zero, List.take_of_length_le (by rw [hintsD_len]; omega)])
end Go.Pw
