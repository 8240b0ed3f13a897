/- Functions: clones. -/
import Derived.Test.YtppebcfhhoggiaaQF4
import Derived.Test.YtppebcfhhoggiaaQL2
set_option linter.unusedVariables false
set_option linter.unusedSimpArgs false
namespace Go.Pw
open Go Go.Proofs
attribute [local irreducible] runL W endD thenQ blockQ loopQ
set_option maxRecDepth 4000
set_option maxHeartbeats 1000000
theorem C63 (l : List Int) (hl : Sm l) : C Try.prog 63 [.d (.sl (ints l))] [] (.ref 2000 0 l.length) [] [.row 1 (ints l)] := by
  refine C_intro T_ok (rs := [.tmp 2]) Try.func63 rfl rfl rfl (Nat.le_of_ble_eq_true rfl) (Nat.le_of_ble_eq_true rfl) rfl ⟨rfl, rfl⟩ rfl fun cx hn => ?_
  have hn : cx.n = 8 := hn
  have Y := And.intro T3 (T23)
  simp only [enumA, enumO, Nat.reduceAdd]
  refine W_seq (W_reg hn T_ok mixed rfl rfl (R_op0 (by simp only [out, pureO, eval, avOf, AV.keys, AV.keys2, AV.keys1, St_M]; rfl) rfl rfl trivial (R_nil (thenQ_n (W_seq ?_)))))
  refine W_seq (W_nil (x := 0) (a := 3) (b := 4) (ts := [(2, .full []), (0, .d (.sl (ints l)))]) (ms := []) hn T_ok rfl rfl (.inl rfl) Try.underlying23 rfl rfl fun c hc => thenQ_n ?_)
  cases c with
  | true =>
    have he : l = [] := by have := hc rfl; simpa [ints] using this
    subst he
    repeat' first | refine R_nil ?_ | ((with_reducible apply tagG); first | refine qg1 ?_ | refine qg2 ?_ | refine qg3 ?_ | refine qg4 ?_ | refine qg5 ?_ | refine qg6 (fun hb => ?_) (fun hb => ?_)) | ((with_reducible apply tagS); first | ((with_reducible apply tagD); first | refine qd1 ?_ | refine qd3 ?_) | ((with_reducible apply tagR); first | refine qr1 ?_ | refine qr3 ?_)) | ((with_reducible apply tagN); first | ((with_reducible apply tagD); first | refine qd2 ?_ | refine qd4 ?_) | ((with_reducible apply tagR); first | refine qr2 ?_ | refine qr4 ?_)) | ((with_reducible apply tagW); first | refine qw1 ?_ | refine qw2 ?_ | refine qw3 ?_ | refine qw4 ?_ | refine qw5 ?_ | refine qw6 (fun hb => ?_) (fun hb => ?_) | refine qw7 ?_ | refine qw8 ?_ | refine qw9 ?_ | refine qw0 ?_) | refine thenQ_n ?_ | refine thenQ_e ?_ | refine thenQ_r ?_ | refine blockQ_n ?_ | refine blockQ_r ?_ | refine blockQ_hit ?_ | refine qb4 ?_ | refine qe ?_ | refine loopQ_e ?_ | refine loopQ_r ?_
    exact ret_nil 1 rfl
  | false =>
    have d1 : (ints l).take l.length = ints l := List.take_of_length_le (by rw [ints_len]; omega)
    have E := @d1
    repeat' first | refine R_nil ?_ | ((with_reducible apply tagG); first | refine qg1 ?_ | refine qg2 ?_ | refine qg3 ?_ | refine qg4 ?_ | refine qg5 ?_ | refine qg6 (fun hb => ?_) (fun hb => ?_)) | ((with_reducible apply tagS); first | ((with_reducible apply tagD); first | refine qd1 ?_ | refine qd3 ?_) | ((with_reducible apply tagR); first | refine qr1 ?_ | refine qr3 ?_)) | ((with_reducible apply tagN); first | ((with_reducible apply tagD); first | refine qd2 ?_ | refine qd4 ?_) | ((with_reducible apply tagR); first | refine qr2 ?_ | refine qr4 ?_)) | ((with_reducible apply tagW); first | refine qw1 ?_ | refine qw2 ?_ | refine qw3 ?_ | refine qw4 ?_ | refine qw5 ?_ | refine qw6 (fun hb => ?_) (fun hb => ?_) | refine qw7 ?_ | refine qw8 ?_ | refine qw9 ?_ | refine qw0 ?_) | refine thenQ_n ?_ | refine thenQ_e ?_ | refine thenQ_r ?_ | refine blockQ_n ?_ | refine blockQ_r ?_ | refine blockQ_hit ?_ | refine qb4 ?_ | refine qe ?_ | refine loopQ_e ?_ | refine loopQ_r ?_
    all_goals clear E
    exact ret_own rfl rfl rfl rfl rfl
theorem C22 (l : List ByteArray) (hl : Sm l) : C Try.prog 22 [.d (.sl (strs l))] [] (.ref 2000 0 l.length) [] [.row 1 (strs l)] := by
  refine C_intro T_ok (rs := [.tmp 2]) Try.func22 rfl rfl rfl (Nat.le_of_ble_eq_true rfl) (Nat.le_of_ble_eq_true rfl) rfl ⟨rfl, rfl⟩ rfl fun cx hn => ?_
  have hn : cx.n = 8 := hn
  have Y := And.intro T9 (T22)
  simp only [enumA, enumO, Nat.reduceAdd]
  refine W_seq (W_reg hn T_ok mixed rfl rfl (R_op0 (by simp only [out, pureO, eval, avOf, AV.keys, AV.keys2, AV.keys1, St_M]; rfl) rfl rfl trivial (R_nil (thenQ_n (W_seq ?_)))))
  refine W_seq (W_nil (x := 0) (a := 3) (b := 4) (ts := [(2, .full []), (0, .d (.sl (strs l)))]) (ms := []) hn T_ok rfl rfl (.inl rfl) Try.underlying22 rfl rfl fun c hc => thenQ_n ?_)
  cases c with
  | true =>
    have he : l = [] := by have := hc rfl; simpa [strs] using this
    subst he
    repeat' first | refine R_nil ?_ | ((with_reducible apply tagG); first | refine qg1 ?_ | refine qg2 ?_ | refine qg3 ?_ | refine qg4 ?_ | refine qg5 ?_ | refine qg6 (fun hb => ?_) (fun hb => ?_)) | ((with_reducible apply tagS); first | ((with_reducible apply tagD); first | refine qd1 ?_ | refine qd3 ?_) | ((with_reducible apply tagR); first | refine qr1 ?_ | refine qr3 ?_)) | ((with_reducible apply tagN); first | ((with_reducible apply tagD); first | refine qd2 ?_ | refine qd4 ?_) | ((with_reducible apply tagR); first | refine qr2 ?_ | refine qr4 ?_)) | ((with_reducible apply tagW); first | refine qw1 ?_ | refine qw2 ?_ | refine qw3 ?_ | refine qw4 ?_ | refine qw5 ?_ | refine qw6 (fun hb => ?_) (fun hb => ?_) | refine qw7 ?_ | refine qw8 ?_ | refine qw9 ?_ | refine qw0 ?_) | refine thenQ_n ?_ | refine thenQ_e ?_ | refine thenQ_r ?_ | refine blockQ_n ?_ | refine blockQ_r ?_ | refine blockQ_hit ?_ | refine qb4 ?_ | refine qe ?_ | refine loopQ_e ?_ | refine loopQ_r ?_
    exact ret_nil 1 rfl
  | false =>
    have d1 : (strs l).take l.length = strs l := List.take_of_length_le (by rw [strs_len]; omega)
    have E := @d1
    repeat' first | refine R_nil ?_ | ((with_reducible apply tagG); first | refine qg1 ?_ | refine qg2 ?_ | refine qg3 ?_ | refine qg4 ?_ | refine qg5 ?_ | refine qg6 (fun hb => ?_) (fun hb => ?_)) | ((with_reducible apply tagS); first | ((with_reducible apply tagD); first | refine qd1 ?_ | refine qd3 ?_) | ((with_reducible apply tagR); first | refine qr1 ?_ | refine qr3 ?_)) | ((with_reducible apply tagN); first | ((with_reducible apply tagD); first | refine qd2 ?_ | refine qd4 ?_) | ((with_reducible apply tagR); first | refine qr2 ?_ | refine qr4 ?_)) | ((with_reducible apply tagW); first | refine qw1 ?_ | refine qw2 ?_ | refine qw3 ?_ | refine qw4 ?_ | refine qw5 ?_ | refine qw6 (fun hb => ?_) (fun hb => ?_) | refine qw7 ?_ | refine qw8 ?_ | refine qw9 ?_ | refine qw0 ?_) | refine thenQ_n ?_ | refine thenQ_e ?_ | refine thenQ_r ?_ | refine blockQ_n ?_ | refine blockQ_r ?_ | refine blockQ_hit ?_ | refine qb4 ?_ | refine qe ?_ | refine loopQ_e ?_ | refine loopQ_r ?_
    all_goals clear E
    exact ret_own rfl rfl rfl rfl rfl
end Go.Pw
