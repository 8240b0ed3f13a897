/- Functions: hints compared; names of types. -/
import Derived.Test.YtppebcfhhoggiaaQL2
import Derived.Test.YtppebcfhhoggiaaQF23
set_option linter.unusedVariables false
set_option linter.unusedSimpArgs false
namespace Go.Pw
open Go Go.Proofs
attribute [local irreducible] runL W endD thenQ blockQ loopQ
set_option maxRecDepth 8000
set_option maxHeartbeats 16000000
def sameHint (x y : Hint) : Bool := decide (x.fn = y.fn) && (decide (x.pc = y.pc) && (decide (x.tag = y.tag) && true))
theorem sameHint_iff (x y : Hint) : sameHint x y = true ↔ x = y := by
  cases x; cases y; simp [sameHint]
theorem C12 (l m : List Hint) (hl : Sm l) (hm : Sm m) : C Try.prog 12 [.d (.sl (hintsD l)), .d (.sl (hintsD m))] [] (dBool (decide (l.length = m.length) && (l.zip m).all fun p => sameHint p.1 p.2)) [] [] := by
  refine C_intro T_ok (rs := [.tmp 4]) Try.func12 rfl rfl rfl (Nat.le_of_ble_eq_true rfl) (Nat.le_of_ble_eq_true rfl) rfl ⟨rfl, rfl⟩ rfl fun cx hn => ?_
  have hn : cx.n = 26 := hn
  have Y := And.intro T3 (And.intro T9 (And.intro T46 (T48)))
  simp only [enumA, enumO, Nat.reduceAdd]
  repeat' first | refine R_nil ?_ | ((with_reducible apply tagG); first | refine qg1 ?_ | refine qg2 ?_ | refine qg3 ?_ | refine qg4 ?_ | refine qg5 ?_ | refine qg6 (fun hb => ?_) (fun hb => ?_)) | ((with_reducible apply tagS); first | ((with_reducible apply tagD); first | refine qd1 ?_ | refine qd3 ?_) | ((with_reducible apply tagR); first | refine qr1 ?_ | refine qr3 ?_)) | ((with_reducible apply tagN); first | ((with_reducible apply tagD); first | refine qd2 ?_ | refine qd4 ?_) | ((with_reducible apply tagR); first | refine qr2 ?_ | refine qr4 ?_)) | ((with_reducible apply tagW); first | refine qw1 ?_ | refine qw2 ?_ | refine qw3 ?_ | refine qw4 ?_ | refine qw5 ?_ | refine qw6 (fun hb => ?_) (fun hb => ?_) | refine qw7 ?_ | refine qw8 ?_ | refine qw9 ?_ | refine qw0 ?_) | refine thenQ_n ?_ | refine thenQ_e ?_ | refine thenQ_r ?_ | refine blockQ_n ?_ | refine blockQ_r ?_ | refine blockQ_hit ?_ | refine qb4 ?_ | refine qe ?_ | refine loopQ_e ?_ | refine loopQ_r ?_
  · refine ret_d rfl ?_
    have : l.length ≠ m.length := by intro e; simp [e] at hb
    simp [this]
  · have hlen : l.length = m.length := by simp at hb; omega
    refine W_loopQ (fun i : Nat => [(13, dInt i), (12, dInt l.length), (0, .d (.sl (hintsD l))), (1, .d (.sl (hintsD m)))]) (fun _ => []) (fun i => l.length - i) (fun i => i ≤ l.length ∧ ((l.zip m).all fun p => sameHint p.1 p.2) = (((l.drop i).zip (m.drop i)).all fun p => sameHint p.1 p.2)) 0 ⟨by omega, rfl⟩ qs fun i ⟨hi, he⟩ => ?_
    by_cases h : i < l.length
    · obtain ⟨x, hx⟩ := get_ex h
      obtain ⟨y, hy⟩ := get_ex (hlen ▸ h : i < m.length)
      have h1 : (i:Int) < l.length := by omega
      have h2 : (i:Int) < m.length := by omega
      have eq0 : (decide (x.fn = y.fn) && (decide (x.pc = y.pc) && (decide (x.tag = y.tag) && true))) = sameHint x y := rfl
      have E := And.intro @h1 (And.intro @h2 (And.intro (hintsD_get hx) (And.intro (hintsD_get hy) (@eq0))))
      repeat' first | refine R_nil ?_ | ((with_reducible apply tagG); first | refine qg1 ?_ | refine qg2 ?_ | refine qg3 ?_ | refine qg4 ?_ | refine qg5 ?_ | refine qg6 (fun hb => ?_) (fun hb => ?_)) | ((with_reducible apply tagS); first | ((with_reducible apply tagD); first | refine qd1 ?_ | refine qd3 ?_) | ((with_reducible apply tagR); first | refine qr1 ?_ | refine qr3 ?_)) | ((with_reducible apply tagN); first | ((with_reducible apply tagD); first | refine qd2 ?_ | refine qd4 ?_) | ((with_reducible apply tagR); first | refine qr2 ?_ | refine qr4 ?_)) | ((with_reducible apply tagW); first | refine qw1 ?_ | refine qw2 ?_ | refine qw3 ?_ | refine qw4 ?_ | refine qw5 ?_ | refine qw6 (fun hb => ?_) (fun hb => ?_) | refine qw7 ?_ | refine qw8 ?_ | refine qw9 ?_ | refine qw0 ?_) | refine thenQ_n ?_ | refine thenQ_e ?_ | refine thenQ_r ?_ | refine blockQ_n ?_ | refine blockQ_r ?_ | refine blockQ_hit ?_ | refine qb4 ?_ | refine qe ?_ | refine loopQ_e ?_ | refine loopQ_r ?_
      all_goals clear E
      · refine ret_d rfl ?_
        rw [he, drop_some hx, drop_some hy]; simp_all
      · refine loopQ_n (i + 1) (by omega) ⟨by omega, ?_⟩ qs
        rw [he, drop_some hx, drop_some hy]; simp_all
    · have h1 : ¬ (i:Int) < l.length := by omega
      have E := @h1
      repeat' first | refine R_nil ?_ | ((with_reducible apply tagG); first | refine qg1 ?_ | refine qg2 ?_ | refine qg3 ?_ | refine qg4 ?_ | refine qg5 ?_ | refine qg6 (fun hb => ?_) (fun hb => ?_)) | ((with_reducible apply tagS); first | ((with_reducible apply tagD); first | refine qd1 ?_ | refine qd3 ?_) | ((with_reducible apply tagR); first | refine qr1 ?_ | refine qr3 ?_)) | ((with_reducible apply tagN); first | ((with_reducible apply tagD); first | refine qd2 ?_ | refine qd4 ?_) | ((with_reducible apply tagR); first | refine qr2 ?_ | refine qr4 ?_)) | ((with_reducible apply tagW); first | refine qw1 ?_ | refine qw2 ?_ | refine qw3 ?_ | refine qw4 ?_ | refine qw5 ?_ | refine qw6 (fun hb => ?_) (fun hb => ?_) | refine qw7 ?_ | refine qw8 ?_ | refine qw9 ?_ | refine qw0 ?_) | refine thenQ_n ?_ | refine thenQ_e ?_ | refine thenQ_r ?_ | refine blockQ_n ?_ | refine blockQ_r ?_ | refine blockQ_hit ?_ | refine qb4 ?_ | refine qe ?_ | refine loopQ_e ?_ | refine loopQ_r ?_
      all_goals clear E
      refine ret_d rfl ?_
      rw [he, drop_none h]; simp [hlen]
def addNames : List ByteArray → List Impl → List ByteArray
  | l, [] => l
  | l, i :: is => addNames (if l.any (fun y => decide (i.for_ = y)) then l else l ++ [i.for_]) is
def Cod.named (c : Cod) : Cod := ⟨addNames c.texts c.impls, c.nums, c.funs, c.actors, c.impls, c.makers, c.pats⟩
theorem strs_take (l : List ByteArray) : (strs l).take l.length = strs l := List.take_of_length_le (by rw [strs_len]; omega)
theorem strs_app (l : List ByteArray) (x : ByteArray) : strs l ++ [[DS x]] = strs (l ++ [x]) := by simp [strs]
theorem C5 (c : Cod) (hc : c.Ok) (hz : c.texts.length + c.impls.length ≤ 1099511627776) : C Try.prog 5 [c.av] [] c.named.av [] [] := by
  refine C_intro T_ok (rs := [.cell 2 30]) Try.func5 rfl rfl rfl (Nat.le_of_ble_eq_true rfl) (Nat.le_of_ble_eq_true rfl) rfl ⟨rfl, rfl⟩ rfl fun cx hn => ?_
  have hn : cx.n = 31 := hn
  have Y := And.intro T3 (And.intro T4 (And.intro T9 (And.intro T22 (And.intro T23 (And.intro T24 (And.intro T25 (And.intro T26 (And.intro T27 (And.intro T28 (And.intro T30 (And.intro T38 (And.intro T40 (And.intro T60 (And.intro T61 (And.intro T63 (And.intro T67 (And.intro T75 (T77))))))))))))))))))
  simp only [enumA, enumO, Nat.reduceAdd]
  repeat' first | refine R_nil ?_ | ((with_reducible apply tagG); first | refine qg1 ?_ | refine qg2 ?_ | refine qg3 ?_ | refine qg4 ?_ | refine qg5 ?_ | refine qg6 (fun hb => ?_) (fun hb => ?_)) | ((with_reducible apply tagK); first | ((with_reducible apply tagD); first | refine qd6 [] (C22 c.texts hc.texts) ?_) | ((with_reducible apply tagR); first | refine qr6 [] (C22 c.texts hc.texts) ?_)) | ((with_reducible apply tagS); first | ((with_reducible apply tagD); first | refine qd1 ?_ | refine qd3 ?_) | ((with_reducible apply tagR); first | refine qr1 ?_ | refine qr3 ?_)) | ((with_reducible apply tagN); first | ((with_reducible apply tagD); first | refine qd2 ?_ | refine qd4 ?_) | ((with_reducible apply tagR); first | refine qr2 ?_ | refine qr4 ?_)) | ((with_reducible apply tagW); first | refine qw1 ?_ | refine qw2 ?_ | refine qw3 ?_ | refine qw4 ?_ | refine qw5 ?_ | refine qw6 (fun hb => ?_) (fun hb => ?_) | refine qw7 ?_ | refine qw8 ?_ | refine qw9 ?_ | refine qw0 ?_) | refine thenQ_n ?_ | refine thenQ_e ?_ | refine thenQ_r ?_ | refine blockQ_n ?_ | refine blockQ_r ?_ | refine blockQ_hit ?_ | refine qb4 ?_ | refine qe ?_ | refine loopQ_e ?_ | refine loopQ_r ?_
  have hct := hc.texts
  have hci := hc.impls
  refine W_loopQ (α := Nat × List ByteArray) (fun x => [(12, dInt x.1), (11, dInt c.impls.length), (10, .d (.sl (implsD c.impls))), (1, .ptr 1 0 0), (2, .ptr 2 0 0)]) (fun x => [(1, some (.box [.ref 2056 0 x.2.length, .d (.sl (ints c.nums)), .d (.sl (fns c.funs)), .d (.sl (actrs c.actors)), .d (.sl (implsD c.impls)), .d (.sl (makersD c.makers)), .d (.sl (patss c.pats))])), (2056, some (.row 1 (strs x.2))), (2, some (.box [.full [], .full [], .full [], .full [], .full [], .full [], .full []]))]) (fun x => c.impls.length - x.1) (fun x => x.1 ≤ c.impls.length ∧ x.2.length ≤ c.texts.length + x.1 ∧ addNames c.texts c.impls = addNames x.2 (c.impls.drop x.1)) (0, c.texts) ⟨by simp, by simp, rfl⟩ qs fun ⟨k, L⟩ ⟨hk, hL, he⟩ => ?_
  dsimp only at hk hL he ⊢
  have e1 := strs_take L
  by_cases h : k < c.impls.length
  · obtain ⟨x, hx⟩ := get_ex h
    have h1 : (k:Int) < c.impls.length := by omega
    have e2 := strs_app L x.for_
    have hC23 := C23 true L x.for_ (by show _ ≤ _; omega)
    rw [drop_some hx, addNames] at he
    cases ha : (L.any fun y => decide (x.for_ = y)) with
    | true =>
      rw [ha] at hC23
      rw [ha, if_pos rfl] at he
      have E := And.intro @h1 (And.intro (implsD_get hx) (@e1))
      repeat' first | refine R_nil ?_ | ((with_reducible apply tagG); first | refine qg1 ?_ | refine qg2 ?_ | refine qg3 ?_ | refine qg4 ?_ | refine qg5 ?_ | refine qg6 (fun hb => ?_) (fun hb => ?_)) | ((with_reducible apply tagK); first | ((with_reducible apply tagD); first | refine qd6 [] (hC23) ?_) | ((with_reducible apply tagR); first | refine qr6 [] (hC23) ?_)) | ((with_reducible apply tagS); first | ((with_reducible apply tagD); first | refine qd1 ?_ | refine qd3 ?_) | ((with_reducible apply tagR); first | refine qr1 ?_ | refine qr3 ?_)) | ((with_reducible apply tagN); first | ((with_reducible apply tagD); first | refine qd2 ?_ | refine qd4 ?_) | ((with_reducible apply tagR); first | refine qr2 ?_ | refine qr4 ?_)) | ((with_reducible apply tagW); first | refine qw1 ?_ | refine qw2 ?_ | refine qw3 ?_ | refine qw4 ?_ | refine qw5 ?_ | refine qw6 (fun hb => ?_) (fun hb => ?_) | refine qw7 ?_ | refine qw8 ?_ | refine qw9 ?_ | refine qw0 ?_) | refine thenQ_n ?_ | refine thenQ_e ?_ | refine thenQ_r ?_ | refine blockQ_n ?_ | refine blockQ_r ?_ | refine blockQ_hit ?_ | refine qb4 ?_ | refine qe ?_ | refine loopQ_e ?_ | refine loopQ_r ?_
      all_goals clear E
      refine loopQ_n (k + 1, L) (by dsimp only; omega) ⟨by dsimp only; omega, by dsimp only; omega, he⟩ (by dsimp only; exact qs)
    | false =>
      rw [ha] at hC23
      rw [ha, if_neg (by simp)] at he
      have E := And.intro @h1 (And.intro (implsD_get hx) (And.intro @e1 (@e2)))
      repeat' first | refine R_nil ?_ | ((with_reducible apply tagG); first | refine qg1 ?_ | refine qg2 ?_ | refine qg3 ?_ | refine qg4 ?_ | refine qg5 ?_ | refine qg6 (fun hb => ?_) (fun hb => ?_)) | ((with_reducible apply tagK); first | ((with_reducible apply tagD); first | refine qd6 [] (hC23) ?_) | ((with_reducible apply tagR); first | refine qr6 [] (hC23) ?_)) | ((with_reducible apply tagS); first | ((with_reducible apply tagD); first | refine qd1 ?_ | refine qd3 ?_) | ((with_reducible apply tagR); first | refine qr1 ?_ | refine qr3 ?_)) | ((with_reducible apply tagN); first | ((with_reducible apply tagD); first | refine qd2 ?_ | refine qd4 ?_) | ((with_reducible apply tagR); first | refine qr2 ?_ | refine qr4 ?_)) | ((with_reducible apply tagW); first | refine qw1 ?_ | refine qw2 ?_ | refine qw3 ?_ | refine qw4 ?_ | refine qw5 ?_ | refine qw6 (fun hb => ?_) (fun hb => ?_) | refine qw7 ?_ | refine qw8 ?_ | refine qw9 ?_ | refine qw0 ?_) | refine thenQ_n ?_ | refine thenQ_e ?_ | refine thenQ_r ?_ | refine blockQ_n ?_ | refine blockQ_r ?_ | refine blockQ_hit ?_ | refine qb4 ?_ | refine qe ?_ | refine loopQ_e ?_ | refine loopQ_r ?_
      all_goals clear E
      refine loopQ_n (k + 1, L ++ [x.for_]) (by dsimp only; omega) ⟨by dsimp only; omega, by simp; omega, he⟩ (by dsimp only; exact qs)
  · have h1 : ¬ (k:Int) < c.impls.length := by omega
    rw [drop_none h, addNames] at he
    have E := @h1
    repeat' first | refine R_nil ?_ | ((with_reducible apply tagG); first | refine qg1 ?_ | refine qg2 ?_ | refine qg3 ?_ | refine qg4 ?_ | refine qg5 ?_ | refine qg6 (fun hb => ?_) (fun hb => ?_)) | ((with_reducible apply tagS); first | ((with_reducible apply tagD); first | refine qd1 ?_ | refine qd3 ?_) | ((with_reducible apply tagR); first | refine qr1 ?_ | refine qr3 ?_)) | ((with_reducible apply tagN); first | ((with_reducible apply tagD); first | refine qd2 ?_ | refine qd4 ?_) | ((with_reducible apply tagR); first | refine qr2 ?_ | refine qr4 ?_)) | ((with_reducible apply tagW); first | refine qw1 ?_ | refine qw2 ?_ | refine qw3 ?_ | refine qw4 ?_ | refine qw5 ?_ | refine qw6 (fun hb => ?_) (fun hb => ?_) | refine qw7 ?_ | refine qw8 ?_ | refine qw9 ?_ | refine qw0 ?_) | refine thenQ_n ?_ | refine thenQ_e ?_ | refine thenQ_r ?_ | refine blockQ_n ?_ | refine blockQ_r ?_ | refine blockQ_hit ?_ | refine qb4 ?_ | refine qe ?_ | refine loopQ_e ?_ | refine loopQ_r ?_
    all_goals clear E
    have E := e1
    rw [show c.named = ⟨L, c.nums, c.funs, c.actors, c.impls, c.makers, c.pats⟩ by unfold Cod.named; rw [he]]
    exact finQ_g (G_d [2056]) (ret_a rfl)
end Go.Pw
