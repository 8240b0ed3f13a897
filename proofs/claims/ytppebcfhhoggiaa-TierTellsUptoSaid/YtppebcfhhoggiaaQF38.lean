/- Functions of the reference: packing, part by part. -/
import Derived.Test.YtppebcfhhoggiaaQF37
set_option linter.unusedVariables false
set_option linter.unusedSimpArgs false
namespace Go.Pw
open Go Go.Proofs
attribute [local irreducible] runL W endD thenQ blockQ loopQ
set_option maxRecDepth 8000
set_option maxHeartbeats 8000000
theorem get_lt {α : Type} {l : List α} {i : Nat} {x : α} (hx : l[i]? = some x) : (i : Int) < l.length := by
  have := (List.getElem?_eq_some_iff.1 hx).1
  omega
theorem C25 (c : Cod) (i : Nat) (s : ByteArray) (hx : c.texts[i]? = some s) (hs : s.size ≤ 1099511627776) : C Try.prog 25 [dInt i, .ptr 1000 0 0] [.box c.cells] (dStr (textS s)) [.box c.cells] [] := by
  have h1 := get_lt hx
  refine C_intro T_ok (rs := [.tmp 3]) Try.func25 rfl rfl rfl (Nat.le_of_ble_eq_true rfl) (Nat.le_of_ble_eq_true rfl) rfl ⟨rfl, rfl⟩ rfl fun cx hn => ?_
  have hn : cx.n = 10 := hn
  have Y := And.intro T3 (And.intro T4 (And.intro T9 (And.intro T22 (And.intro T23 (And.intro T24 (And.intro T25 (And.intro T26 (And.intro T27 (And.intro T28 (And.intro T30 (And.intro T38 (And.intro T40 (And.intro T60 (And.intro T61 (And.intro T63 (And.intro T67 (And.intro T75 (T77))))))))))))))))))
  simp only [enumA, enumO, Nat.reduceAdd]
  have E := And.intro @h1 ((strs_get hx))
  repeat' first | refine R_nil ?_ | ((with_reducible apply tagG); first | refine qg1 ?_ | refine qg2 ?_ | refine qg3 ?_ | refine qg4 ?_ | refine qg5 ?_ | refine qg6 (fun hb => ?_) (fun hb => ?_)) | ((with_reducible apply tagK); first | ((with_reducible apply tagD); first | refine qd5 (C26 s hs) ?_) | ((with_reducible apply tagR); first | refine qr5 (C26 s hs) ?_)) | ((with_reducible apply tagS); first | ((with_reducible apply tagD); first | refine qd1 ?_ | refine qd3 ?_) | ((with_reducible apply tagR); first | refine qr1 ?_ | refine qr3 ?_)) | ((with_reducible apply tagN); first | ((with_reducible apply tagD); first | refine qd2 ?_ | refine qd4 ?_) | ((with_reducible apply tagR); first | refine qr2 ?_ | refine qr4 ?_)) | ((with_reducible apply tagW); first | refine qw1 ?_ | refine qw2 ?_ | refine qw3 ?_ | refine qw4 ?_ | refine qw5 ?_ | refine qw6 (fun hb => ?_) (fun hb => ?_) | refine qw7 ?_ | refine qw8 ?_ | refine qw9 ?_ | refine qw0 ?_) | refine thenQ_n ?_ | refine thenQ_e ?_ | refine thenQ_r ?_ | refine blockQ_n ?_ | refine blockQ_r ?_ | refine blockQ_hit ?_ | refine qb4 ?_ | refine qe ?_ | refine loopQ_e ?_ | refine loopQ_r ?_
  all_goals clear E
  exact ret_dM rfl rfl rfl rfl
def actS (a : Actr) : ByteArray := textS a.name ++ numsS [a.states, a.fn, if a.top then 1 else 0]
def implS (a : Impl) : ByteArray := textS a.name ++ textS a.for_ ++ numS a.fn
def makS (a : Maker) : ByteArray := textS a.name ++ textS a.data ++ numS a.args
theorem C32 (c : Cod) (i : Nat) (x : Impl) (hx : c.impls[i]? = some x) (hs : x.name.size ≤ 1099511627776) (hf : x.for_.size ≤ 1099511627776) (hi : I64 x.fn) : C Try.prog 32 [dInt i, .ptr 1000 0 0] [.box c.cells] (dStr (implS x)) [.box c.cells] [] := by
  have z1 := textS_size x.name
  have z2 := textS_size x.for_
  have z3 := numS_size x.fn
  have z4 := app_size (textS x.name) (textS x.for_)
  have h1 := get_lt hx
  refine C_intro T_ok (rs := [.tmp 3]) Try.func32 rfl rfl rfl (Nat.le_of_ble_eq_true rfl) (Nat.le_of_ble_eq_true rfl) rfl ⟨rfl, rfl⟩ rfl fun cx hn => ?_
  have hn : cx.n = 27 := hn
  have Y := And.intro T3 (And.intro T4 (And.intro T9 (And.intro T22 (And.intro T23 (And.intro T24 (And.intro T25 (And.intro T26 (And.intro T27 (And.intro T28 (And.intro T30 (And.intro T38 (And.intro T40 (And.intro T60 (And.intro T61 (And.intro T63 (And.intro T67 (And.intro T75 (T77))))))))))))))))))
  simp only [enumA, enumO, Nat.reduceAdd]
  have E := And.intro @h1 ((implsD_get hx))
  repeat' first | refine R_nil ?_ | ((with_reducible apply tagG); first | refine qg1 ?_ | refine qg2 ?_ | refine qg3 ?_ | refine qg4 ?_ | refine qg5 ?_ | refine qg6 (fun hb => ?_) (fun hb => ?_)) | ((with_reducible apply tagK); first | ((with_reducible apply tagD); first | refine qd5 (C26 x.name hs) ?_ | refine qd5 (C26 x.for_ hf) ?_ | refine qd5 (C27 x.fn hi.1 hi.2) ?_) | ((with_reducible apply tagR); first | refine qr5 (C26 x.name hs) ?_ | refine qr5 (C26 x.for_ hf) ?_ | refine qr5 (C27 x.fn hi.1 hi.2) ?_)) | ((with_reducible apply tagS); first | ((with_reducible apply tagD); first | refine qd1 ?_ | refine qd3 ?_) | ((with_reducible apply tagR); first | refine qr1 ?_ | refine qr3 ?_)) | ((with_reducible apply tagN); first | ((with_reducible apply tagD); first | refine qd2 ?_ | refine qd4 ?_) | ((with_reducible apply tagR); first | refine qr2 ?_ | refine qr4 ?_)) | ((with_reducible apply tagW); first | refine qw1 ?_ | refine qw2 ?_ | refine qw3 ?_ | refine qw4 ?_ | refine qw5 ?_ | refine qw6 (fun hb => ?_) (fun hb => ?_) | refine qw7 ?_ | refine qw8 ?_ | refine qw9 ?_ | refine qw0 ?_) | refine thenQ_n ?_ | refine thenQ_e ?_ | refine thenQ_r ?_ | refine blockQ_n ?_ | refine blockQ_r ?_ | refine blockQ_hit ?_ | refine qb4 ?_ | refine qe ?_ | refine loopQ_e ?_ | refine loopQ_r ?_
  all_goals clear E
  exact ret_dM rfl rfl rfl rfl
theorem C33 (c : Cod) (i : Nat) (x : Maker) (hx : c.makers[i]? = some x) (hs : x.name.size ≤ 1099511627776) (hf : x.data.size ≤ 1099511627776) (hi : I64 x.args) : C Try.prog 33 [dInt i, .ptr 1000 0 0] [.box c.cells] (dStr (makS x)) [.box c.cells] [] := by
  have z1 := textS_size x.name
  have z2 := textS_size x.data
  have z3 := numS_size x.args
  have z4 := app_size (textS x.name) (textS x.data)
  have h1 := get_lt hx
  refine C_intro T_ok (rs := [.tmp 3]) Try.func33 rfl rfl rfl (Nat.le_of_ble_eq_true rfl) (Nat.le_of_ble_eq_true rfl) rfl ⟨rfl, rfl⟩ rfl fun cx hn => ?_
  have hn : cx.n = 27 := hn
  have Y := And.intro T3 (And.intro T4 (And.intro T9 (And.intro T22 (And.intro T23 (And.intro T24 (And.intro T25 (And.intro T26 (And.intro T27 (And.intro T28 (And.intro T30 (And.intro T38 (And.intro T40 (And.intro T60 (And.intro T61 (And.intro T63 (And.intro T67 (And.intro T75 (T77))))))))))))))))))
  simp only [enumA, enumO, Nat.reduceAdd]
  have E := And.intro @h1 ((makersD_get hx))
  repeat' first | refine R_nil ?_ | ((with_reducible apply tagG); first | refine qg1 ?_ | refine qg2 ?_ | refine qg3 ?_ | refine qg4 ?_ | refine qg5 ?_ | refine qg6 (fun hb => ?_) (fun hb => ?_)) | ((with_reducible apply tagK); first | ((with_reducible apply tagD); first | refine qd5 (C26 x.name hs) ?_ | refine qd5 (C26 x.data hf) ?_ | refine qd5 (C27 x.args hi.1 hi.2) ?_) | ((with_reducible apply tagR); first | refine qr5 (C26 x.name hs) ?_ | refine qr5 (C26 x.data hf) ?_ | refine qr5 (C27 x.args hi.1 hi.2) ?_)) | ((with_reducible apply tagS); first | ((with_reducible apply tagD); first | refine qd1 ?_ | refine qd3 ?_) | ((with_reducible apply tagR); first | refine qr1 ?_ | refine qr3 ?_)) | ((with_reducible apply tagN); first | ((with_reducible apply tagD); first | refine qd2 ?_ | refine qd4 ?_) | ((with_reducible apply tagR); first | refine qr2 ?_ | refine qr4 ?_)) | ((with_reducible apply tagW); first | refine qw1 ?_ | refine qw2 ?_ | refine qw3 ?_ | refine qw4 ?_ | refine qw5 ?_ | refine qw6 (fun hb => ?_) (fun hb => ?_) | refine qw7 ?_ | refine qw8 ?_ | refine qw9 ?_ | refine qw0 ?_) | refine thenQ_n ?_ | refine thenQ_e ?_ | refine thenQ_r ?_ | refine blockQ_n ?_ | refine blockQ_r ?_ | refine blockQ_hit ?_ | refine qb4 ?_ | refine qe ?_ | refine loopQ_e ?_ | refine loopQ_r ?_
  all_goals clear E
  exact ret_dM rfl rfl rfl rfl
theorem i64_0 : I64 0 := by unfold I64; omega
theorem i64_1 : I64 1 := by unfold I64; omega
theorem C31 (c : Cod) (i : Nat) (x : Actr) (hx : c.actors[i]? = some x) (hs : x.name.size ≤ 1099511627776) (hi : I64 x.states) (hf : I64 x.fn) : C Try.prog 31 [dInt i, .ptr 1000 0 0] [.box c.cells] (dStr (actS x)) [.box c.cells] [] := by
  have z1 := textS_size x.name
  have z0 := numsS_size [x.states, x.fn, if x.top then 1 else 0]
  have h1 := get_lt hx
  have hall : ∀ n ∈ ([x.states, x.fn, if x.top then 1 else 0] : List Int), I64 n := by
    intro n hn
    simp only [List.mem_cons, List.not_mem_nil, or_false] at hn
    rcases hn with rfl | rfl | rfl
    · exact hi
    · exact hf
    · split
      · exact i64_1
      · exact i64_0
  have e : actS x = textS x.name ++ numsS [x.states, x.fn, if x.top then 1 else 0] := rfl
  rw [e]
  rcases x with ⟨nm, st, fn, tp⟩
  simp only [List.length_cons, List.length_nil] at *
  cases tp
  all_goals
    simp only [Bool.false_eq_true, if_true, if_false] at *
    have hC28 := C28 true _ (by simp [Sm]) hall
    simp only [slA_t, ints, List.map_cons, List.map_nil] at hC28
    refine C_intro T_ok (rs := [.tmp 3]) Try.func31 rfl rfl rfl (Nat.le_of_ble_eq_true rfl) (Nat.le_of_ble_eq_true rfl) rfl ⟨rfl, rfl⟩ rfl fun cx hn => ?_
    have hn : cx.n = 26 := hn
    have Y := And.intro T3 (And.intro T4 (And.intro T9 (And.intro T22 (And.intro T23 (And.intro T24 (And.intro T25 (And.intro T26 (And.intro T27 (And.intro T28 (And.intro T30 (And.intro T38 (And.intro T40 (And.intro T60 (And.intro T61 (And.intro T63 (And.intro T67 (And.intro T75 (T77))))))))))))))))))
    simp only [enumA, enumO, Nat.reduceAdd]
    have E := And.intro @h1 ((actrs_get hx))
    repeat' first | refine R_nil ?_ | ((with_reducible apply tagG); first | refine qg1 ?_ | refine qg2 ?_ | refine qg3 ?_ | refine qg4 ?_ | refine qg5 ?_ | refine qg6 (fun hb => ?_) (fun hb => ?_)) | ((with_reducible apply tagK); first | ((with_reducible apply tagD); first | refine qd5 (C26 nm hs) ?_ | refine qd6 [] (hC28) ?_) | ((with_reducible apply tagR); first | refine qr5 (C26 nm hs) ?_ | refine qr6 [] (hC28) ?_)) | ((with_reducible apply tagS); first | ((with_reducible apply tagD); first | refine qd1 ?_ | refine qd3 ?_) | ((with_reducible apply tagR); first | refine qr1 ?_ | refine qr3 ?_)) | ((with_reducible apply tagN); first | ((with_reducible apply tagD); first | refine qd2 ?_ | refine qd4 ?_) | ((with_reducible apply tagR); first | refine qr2 ?_ | refine qr4 ?_)) | ((with_reducible apply tagW); first | refine qw1 ?_ | refine qw2 ?_ | refine qw3 ?_ | refine qw4 ?_ | refine qw5 ?_ | refine qw6 (fun hb => ?_) (fun hb => ?_) | refine qw7 ?_ | refine qw8 ?_ | refine qw9 ?_ | refine qw0 ?_) | refine thenQ_n ?_ | refine thenQ_e ?_ | refine thenQ_r ?_ | refine blockQ_n ?_ | refine blockQ_r ?_ | refine blockQ_hit ?_ | refine qb4 ?_ | refine qe ?_ | refine loopQ_e ?_ | refine loopQ_r ?_
    all_goals clear E
    exact ret_dM rfl rfl rfl rfl
end Go.Pw
