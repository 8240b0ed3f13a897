/- Functions of the reference: instructions and functions packed. -/
import Derived.Test.YtppebcfhhoggiaaQF38
set_option linter.unusedVariables false
set_option linter.unusedSimpArgs false
namespace Go.Pw
open Go Go.Proofs
attribute [local irreducible] runL W endD thenQ blockQ loopQ
set_option maxRecDepth 8000
set_option maxHeartbeats 8000000
def insS (i : Ins) : ByteArray := numsS [i.op, i.a, i.b, i.c, i.args.length] ++ numsS i.args
def fnS (f : Fn) : ByteArray := textS f.name ++ numsS [f.params, f.holds, f.regs] ++ listS f.ins.length fun j => insS (f.ins.getD j ⟨0, 0, 0, 0, []⟩)
theorem C30 (f : Fn) (j : Nat) (x : Ins) (hx : f.ins[j]? = some x) (hs : Sm x.args) (ho : I64 x.op) (ha : I64 x.a) (hb : I64 x.b) (hc : I64 x.c) (hr : ∀ n ∈ x.args, I64 n) : C Try.prog 30 [dInt j, .ptr 1000 0 0] [.box f.cells] (dStr (insS x)) [.box f.cells] [] := by
  have z0 := numsS_size [x.op, x.a, x.b, x.c, (x.args.length : Int)]
  have z1 := numsS_size x.args
  have h1 := get_lt hx
  have hl : I64 (x.args.length : Int) := by unfold I64; omega
  have hall : ∀ n ∈ ([x.op, x.a, x.b, x.c, (x.args.length : Int)] : List Int), I64 n := by
    intro n hn
    simp only [List.mem_cons, List.not_mem_nil, or_false] at hn
    rcases hn with rfl | rfl | rfl | rfl | rfl <;> assumption
  have hC28 := C28 true _ (by simp [Sm]) hall
  simp only [slA_t, ints, List.map_cons, List.map_nil] at hC28
  have hC28' := C28 false x.args hs hr
  simp only [slA_f] at hC28'
  have e : insS x = numsS [x.op, x.a, x.b, x.c, (x.args.length : Int)] ++ numsS x.args := rfl
  rw [e]
  simp only [List.length_cons, List.length_nil] at *
  refine C_intro T_ok (rs := [.tmp 3]) Try.func30 rfl rfl rfl (Nat.le_of_ble_eq_true rfl) (Nat.le_of_ble_eq_true rfl) rfl ⟨rfl, rfl⟩ rfl fun cx hn => ?_
  have hn : cx.n = 27 := hn
  have Y := And.intro T3 (And.intro T9 (And.intro T23 (And.intro T38 (And.intro T40 (T60)))))
  simp only [enumA, enumO, Nat.reduceAdd]
  have E := And.intro @h1 ((inss_get hx))
  repeat' first | refine R_nil ?_ | ((with_reducible apply tagG); first | refine qg1 ?_ | refine qg2 ?_ | refine qg3 ?_ | refine qg4 ?_ | refine qg5 ?_ | refine qg6 (fun hb => ?_) (fun hb => ?_)) | ((with_reducible apply tagK); first | ((with_reducible apply tagD); first | refine qd6 [] (hC28) ?_ | refine qd5 (hC28') ?_) | ((with_reducible apply tagR); first | refine qr6 [] (hC28) ?_ | refine qr5 (hC28') ?_)) | ((with_reducible apply tagS); first | ((with_reducible apply tagD); first | refine qd1 ?_ | refine qd3 ?_) | ((with_reducible apply tagR); first | refine qr1 ?_ | refine qr3 ?_)) | ((with_reducible apply tagN); first | ((with_reducible apply tagD); first | refine qd2 ?_ | refine qd4 ?_) | ((with_reducible apply tagR); first | refine qr2 ?_ | refine qr4 ?_)) | ((with_reducible apply tagW); first | refine qw1 ?_ | refine qw2 ?_ | refine qw3 ?_ | refine qw4 ?_ | refine qw5 ?_ | refine qw6 (fun hb => ?_) (fun hb => ?_) | refine qw7 ?_ | refine qw8 ?_ | refine qw9 ?_ | refine qw0 ?_) | refine thenQ_n ?_ | refine thenQ_e ?_ | refine thenQ_r ?_ | refine blockQ_n ?_ | refine blockQ_r ?_ | refine blockQ_hit ?_ | refine qb4 ?_ | refine qe ?_ | refine loopQ_e ?_ | refine loopQ_r ?_
  all_goals clear E
  exact ret_dM rfl rfl rfl rfl
theorem C29 (c : Cod) (k : Nat) (f : Fn) (hf : c.funs[k]? = some f) (hs : f.name.size ≤ 1099511627776) (hp : I64 f.params) (hh : I64 f.holds) (hg : I64 f.regs) (hn' : Sm f.ins)
    (hz : (listS f.ins.length fun j => insS (f.ins.getD j ⟨0, 0, 0, 0, []⟩)).size ≤ 1152921504606846976)
    (hi : ∀ x ∈ f.ins, Sm x.args ∧ I64 x.op ∧ I64 x.a ∧ I64 x.b ∧ I64 x.c ∧ ∀ n ∈ x.args, I64 n) : C Try.prog 29 [dInt k, .ptr 1000 0 0] [.box c.cells] (dStr (fnS f)) [.box c.cells] [] := by
  have z1 := textS_size f.name
  have z0 := numsS_size [f.params, f.holds, f.regs]
  have z2 := app_size (textS f.name) (numsS [f.params, f.holds, f.regs])
  have h1 := get_lt hf
  have hall : ∀ n ∈ ([f.params, f.holds, f.regs] : List Int), I64 n := by
    intro n hn
    simp only [List.mem_cons, List.not_mem_nil, or_false] at hn
    rcases hn with rfl | rfl | rfl <;> assumption
  have hC28 := C28 true _ (by simp [Sm]) hall
  simp only [slA_t, ints, List.map_cons, List.map_nil] at hC28
  have hC24 := C24f 30 f.ins.length f (fun j => insS (f.ins.getD j ⟨0, 0, 0, 0, []⟩)) hn' hz fun j hj => by
    obtain ⟨x, hx⟩ := get_ex hj
    obtain ⟨a1, a2, a3, a4, a5, a6⟩ := hi x (List.mem_of_getElem? hx)
    have := C30 f j x hx a1 a2 a3 a4 a5 a6
    rw [show f.ins.getD j ⟨0, 0, 0, 0, []⟩ = x by rw [List.getD_eq_getElem?_getD, hx]; rfl]
    exact this
  have e : fnS f = textS f.name ++ numsS [f.params, f.holds, f.regs] ++ listS f.ins.length (fun j => insS (f.ins.getD j ⟨0, 0, 0, 0, []⟩)) := rfl
  rw [e]
  generalize listS f.ins.length (fun j => insS (f.ins.getD j ⟨0, 0, 0, 0, []⟩)) = Z at *
  simp only [List.length_cons, List.length_nil] at *
  refine C_intro T_ok (rs := [.tmp 3]) Try.func29 rfl rfl rfl (Nat.le_of_ble_eq_true rfl) (Nat.le_of_ble_eq_true rfl) rfl ⟨rfl, rfl⟩ rfl fun cx hn => ?_
  have hn : cx.n = 28 := hn
  have Y := And.intro T3 (And.intro T4 (And.intro T9 (And.intro T22 (And.intro T23 (And.intro T24 (And.intro T25 (And.intro T26 (And.intro T27 (And.intro T28 (And.intro T30 (And.intro T38 (And.intro T40 (And.intro T60 (And.intro T61 (And.intro T63 (And.intro T67 (And.intro T72 (And.intro T75 (T77)))))))))))))))))))
  simp only [enumA, enumO, Nat.reduceAdd]
  have E := And.intro @h1 ((fns_get hf))
  repeat' first | refine R_nil ?_ | ((with_reducible apply tagG); first | refine qg1 ?_ | refine qg2 ?_ | refine qg3 ?_ | refine qg4 ?_ | refine qg5 ?_ | refine qg6 (fun hb => ?_) (fun hb => ?_)) | ((with_reducible apply tagK); first | ((with_reducible apply tagD); first | refine qd5 (C26 f.name hs) ?_ | refine qd6 [] (hC28) ?_ | refine qd7 [4] (hC24) ?_ | refine qd6 [4] (hC24) ?_) | ((with_reducible apply tagR); first | refine qr5 (C26 f.name hs) ?_ | refine qr6 [] (hC28) ?_ | refine qr7 [4] (hC24) ?_ | refine qr6 [4] (hC24) ?_)) | ((with_reducible apply tagS); first | ((with_reducible apply tagD); first | refine qd1 ?_ | refine qd3 ?_) | ((with_reducible apply tagR); first | refine qr1 ?_ | refine qr3 ?_)) | ((with_reducible apply tagN); first | ((with_reducible apply tagD); first | refine qd2 ?_ | refine qd4 ?_) | ((with_reducible apply tagR); first | refine qr2 ?_ | refine qr4 ?_)) | ((with_reducible apply tagW); first | refine qw1 ?_ | refine qw2 ?_ | refine qw3 ?_ | refine qw4 ?_ | refine qw5 ?_ | refine qw6 (fun hb => ?_) (fun hb => ?_) | refine qw7 ?_ | refine qw8 ?_ | refine qw9 ?_ | refine qw0 ?_) | refine thenQ_n ?_ | refine thenQ_e ?_ | refine thenQ_r ?_ | refine blockQ_n ?_ | refine blockQ_r ?_ | refine blockQ_hit ?_ | refine qb4 ?_ | refine qe ?_ | refine loopQ_e ?_ | refine loopQ_r ?_
  all_goals clear E
  exact ret_dM rfl rfl rfl rfl
end Go.Pw
