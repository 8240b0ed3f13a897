/- Functions: closures of the compiler. -/
import Derived.Test.YtppebcfhhoggiaaQF2
set_option linter.unusedVariables false
set_option linter.unusedSimpArgs false
namespace Go.Pw
open Go Go.Proofs
attribute [local irreducible] runL W endD thenQ blockQ loopQ
set_option maxRecDepth 4000
set_option maxHeartbeats 2000000
abbrev Ins.cells (i : Ins) : List AV := [dInt i.op, dInt i.a, dInt i.b, dInt i.c, .d (.sl (ints i.args))]
abbrev Fn.cells (f : Fn) : List AV := [dStr f.name, dInt f.params, dInt f.holds, dInt f.regs, .d (.sl (inss f.ins))]
theorem C44 (x : Impl) (c : Cod) (i : Ins) (s : ByteArray) (h0 : 0 ≤ i.b) (hs : c.texts[i.b.toNat]? = some s) : C Try.prog 44 [x.av, .ptr 1000 0 0, .ptr 1001 0 0] [.box c.cells, .box i.cells] (dBool (decide (x.name = s))) [.box c.cells, .box i.cells] [] := by
  have hlt : i.b < c.texts.length := by have := (List.getElem?_eq_some_iff.1 hs).1; omega
  refine C_intro T_ok (rs := [.tmp 4]) Try.func44 rfl rfl rfl (Nat.le_of_ble_eq_true rfl) (Nat.le_of_ble_eq_true rfl) rfl ⟨rfl, rfl⟩ rfl fun cx hn => ?_
  have hn : cx.n = 14 := hn
  have Y := And.intro T3 (And.intro T4 (And.intro T9 (And.intro T22 (And.intro T23 (And.intro T24 (And.intro T25 (And.intro T26 (And.intro T27 (And.intro T28 (And.intro T30 (And.intro T38 (And.intro T40 (And.intro T60 (And.intro T61 (And.intro T63 (And.intro T67 (And.intro T75 (T77))))))))))))))))))
  simp only [enumA, enumO, Nat.reduceAdd]
  have E := (strs_get hs)
  repeat' first | refine R_nil ?_ | ((with_reducible apply tagG); first | refine qg1 ?_ | refine qg2 ?_ | refine qg3 ?_ | refine qg4 ?_ | refine qg5 ?_ | refine qg6 (fun hb => ?_) (fun hb => ?_)) | ((with_reducible apply tagS); first | ((with_reducible apply tagD); first | refine qd1 ?_ | refine qd3 ?_) | ((with_reducible apply tagR); first | refine qr1 ?_ | refine qr3 ?_)) | ((with_reducible apply tagN); first | ((with_reducible apply tagD); first | refine qd2 ?_ | refine qd4 ?_) | ((with_reducible apply tagR); first | refine qr2 ?_ | refine qr4 ?_)) | ((with_reducible apply tagW); first | refine qw1 ?_ | refine qw2 ?_ | refine qw3 ?_ | refine qw4 ?_ | refine qw5 ?_ | refine qw6 (fun hb => ?_) (fun hb => ?_) | refine qw7 ?_ | refine qw8 ?_ | refine qw9 ?_ | refine qw0 ?_) | refine thenQ_n ?_ | refine thenQ_e ?_ | refine thenQ_r ?_ | refine blockQ_n ?_ | refine blockQ_r ?_ | refine blockQ_hit ?_ | refine qb4 ?_ | refine qe ?_ | refine loopQ_e ?_ | refine loopQ_r ?_
  all_goals clear E
  exact ret_dM rfl rfl rfl rfl
theorem C43a (l : List Impl) (c : Cod) (i : Ins) (s : ByteArray) (h0 : 0 ≤ i.b) (hs : c.texts[i.b.toNat]? = some s) (hl : Sm l) : C Try.prog 43 [.d (.sl (implsD l)), .fn 44 [(1000, 0, 0), (1001, 0, 0)]] [.box c.cells, .box i.cells] (dInt (idx (fun x => decide (x.name = s)) 0 l)) [.box c.cells, .box i.cells] [] := by
  refine C_intro T_ok (rs := [.tmp 4]) Try.func43 rfl rfl rfl (Nat.le_of_ble_eq_true rfl) (Nat.le_of_ble_eq_true rfl) rfl ⟨rfl, rfl⟩ rfl fun cx hn => ?_
  have hn : cx.n = 19 := hn
  have Y := And.intro T3 (And.intro T9 (And.intro T26 (T67)))
  simp only [enumA, enumO, Nat.reduceAdd]
  repeat' first | refine R_nil ?_ | ((with_reducible apply tagG); first | refine qg1 ?_ | refine qg2 ?_ | refine qg3 ?_ | refine qg4 ?_ | refine qg5 ?_ | refine qg6 (fun hb => ?_) (fun hb => ?_)) | ((with_reducible apply tagS); first | ((with_reducible apply tagD); first | refine qd1 ?_ | refine qd3 ?_) | ((with_reducible apply tagR); first | refine qr1 ?_ | refine qr3 ?_)) | ((with_reducible apply tagN); first | ((with_reducible apply tagD); first | refine qd2 ?_ | refine qd4 ?_) | ((with_reducible apply tagR); first | refine qr2 ?_ | refine qr4 ?_)) | ((with_reducible apply tagW); first | refine qw1 ?_ | refine qw2 ?_ | refine qw3 ?_ | refine qw4 ?_ | refine qw5 ?_ | refine qw6 (fun hb => ?_) (fun hb => ?_) | refine qw7 ?_ | refine qw8 ?_ | refine qw9 ?_ | refine qw0 ?_) | refine thenQ_n ?_ | refine thenQ_e ?_ | refine thenQ_r ?_ | refine blockQ_n ?_ | refine blockQ_r ?_ | refine blockQ_hit ?_ | refine qb4 ?_ | refine qe ?_ | refine loopQ_e ?_ | refine loopQ_r ?_
  refine W_loopQ (fun i : Nat => [(8, dInt i), (7, dInt l.length), (0, .d (.sl (implsD l))), (1, .fn 44 [(1000, 0, 0), (1001, 0, 0)])]) (fun _ => [(1000, some (.box c.cells)), (1001, some (.box i.cells))]) (fun i => l.length - i) (fun i => i ≤ l.length ∧ idx (fun x => decide (x.name = s)) 0 l = idx (fun x => decide (x.name = s)) i (l.drop i)) 0 ⟨by omega, rfl⟩ qs fun j ⟨hi, he⟩ => ?_
  by_cases h : j < l.length
  · obtain ⟨x, hx⟩ := get_ex h
    have h1 : (j:Int) < l.length := by omega
    have E := And.intro @h1 ((implsD_get hx))
    repeat' first | refine R_nil ?_ | ((with_reducible apply tagG); first | refine qg1 ?_ | refine qg2 ?_ | refine qg3 ?_ | refine qg4 ?_ | refine qg5 ?_ | refine qg6 (fun hb => ?_) (fun hb => ?_)) | ((with_reducible apply tagK); first | ((with_reducible apply tagD); first | refine qd7 [1000, 1001] (C44 x c i s h0 hs) ?_ | refine qd6 [1000, 1001] (C44 x c i s h0 hs) ?_) | ((with_reducible apply tagR); first | refine qr7 [1000, 1001] (C44 x c i s h0 hs) ?_ | refine qr6 [1000, 1001] (C44 x c i s h0 hs) ?_)) | ((with_reducible apply tagS); first | ((with_reducible apply tagD); first | refine qd1 ?_ | refine qd3 ?_) | ((with_reducible apply tagR); first | refine qr1 ?_ | refine qr3 ?_)) | ((with_reducible apply tagN); first | ((with_reducible apply tagD); first | refine qd2 ?_ | refine qd4 ?_) | ((with_reducible apply tagR); first | refine qr2 ?_ | refine qr4 ?_)) | ((with_reducible apply tagW); first | refine qw1 ?_ | refine qw2 ?_ | refine qw3 ?_ | refine qw4 ?_ | refine qw5 ?_ | refine qw6 (fun hb => ?_) (fun hb => ?_) | refine qw7 ?_ | refine qw8 ?_ | refine qw9 ?_ | refine qw0 ?_) | refine thenQ_n ?_ | refine thenQ_e ?_ | refine thenQ_r ?_ | refine blockQ_n ?_ | refine blockQ_r ?_ | refine blockQ_hit ?_ | refine qb4 ?_ | refine qe ?_ | refine loopQ_e ?_ | refine loopQ_r ?_
    all_goals clear E
    · refine ret_dM rfl ?_ rfl rfl
      rw [he, drop_some hx]; simp_all [idx]
    · refine loopQ_n (j + 1) (by omega) ⟨by omega, ?_⟩ qs
      rw [he, drop_some hx]; simp_all [idx]
  · have h1 : ¬ (j:Int) < l.length := by omega
    have E := @h1
    repeat' first | refine R_nil ?_ | ((with_reducible apply tagG); first | refine qg1 ?_ | refine qg2 ?_ | refine qg3 ?_ | refine qg4 ?_ | refine qg5 ?_ | refine qg6 (fun hb => ?_) (fun hb => ?_)) | ((with_reducible apply tagS); first | ((with_reducible apply tagD); first | refine qd1 ?_ | refine qd3 ?_) | ((with_reducible apply tagR); first | refine qr1 ?_ | refine qr3 ?_)) | ((with_reducible apply tagN); first | ((with_reducible apply tagD); first | refine qd2 ?_ | refine qd4 ?_) | ((with_reducible apply tagR); first | refine qr2 ?_ | refine qr4 ?_)) | ((with_reducible apply tagW); first | refine qw1 ?_ | refine qw2 ?_ | refine qw3 ?_ | refine qw4 ?_ | refine qw5 ?_ | refine qw6 (fun hb => ?_) (fun hb => ?_) | refine qw7 ?_ | refine qw8 ?_ | refine qw9 ?_ | refine qw0 ?_) | refine thenQ_n ?_ | refine thenQ_e ?_ | refine thenQ_r ?_ | refine blockQ_n ?_ | refine blockQ_r ?_ | refine blockQ_hit ?_ | refine qb4 ?_ | refine qe ?_ | refine loopQ_e ?_ | refine loopQ_r ?_
    all_goals clear E
    refine ret_dM rfl ?_ rfl rfl
    rw [he, drop_none h]; rfl
theorem C62 (x : Impl) (c : Cod) (i : Ins) (hs : List Hint) (k : Int) (h : Hint) (s : ByteArray) (h0 : 0 ≤ i.b) (ht : c.texts[i.b.toNat]? = some s) (h2 : 0 ≤ k) (hk : hs[k.toNat]? = some h) :
    C Try.prog 62 [x.av, .ptr 1000 0 0, .ptr 1001 0 0, .ptr 1002 0 0, .ptr 1003 0 0] [.box c.cells, .box i.cells, .box [.d (.sl (hintsD hs))], .box [dInt k]] (dBool (decide (x.name = s) && decide (x.for_ = h.tag))) [.box c.cells, .box i.cells, .box [.d (.sl (hintsD hs))], .box [dInt k]] [] := by
  have hlt : i.b < c.texts.length := by have := (List.getElem?_eq_some_iff.1 ht).1; omega
  have hlk : k < hs.length := by have := (List.getElem?_eq_some_iff.1 hk).1; omega
  refine C_intro T_ok (rs := [.tmp 6]) Try.func62 rfl rfl rfl (Nat.le_of_ble_eq_true rfl) (Nat.le_of_ble_eq_true rfl) rfl ⟨rfl, rfl⟩ rfl fun cx hn => ?_
  have hn : cx.n = 26 := hn
  have Y := And.intro T3 (And.intro T4 (And.intro T9 (And.intro T22 (And.intro T23 (And.intro T24 (And.intro T25 (And.intro T26 (And.intro T27 (And.intro T28 (And.intro T30 (And.intro T38 (And.intro T40 (And.intro T46 (And.intro T48 (And.intro T60 (And.intro T61 (And.intro T63 (And.intro T67 (And.intro T75 (T77))))))))))))))))))))
  simp only [enumA, enumO, Nat.reduceAdd]
  have E := And.intro (strs_get ht) ((hintsD_get hk))
  repeat' first | refine R_nil ?_ | ((with_reducible apply tagG); first | refine qg1 ?_ | refine qg2 ?_ | refine qg3 ?_ | refine qg4 ?_ | refine qg5 ?_ | refine qg6 (fun hb => ?_) (fun hb => ?_)) | ((with_reducible apply tagS); first | ((with_reducible apply tagD); first | refine qd1 ?_ | refine qd3 ?_) | ((with_reducible apply tagR); first | refine qr1 ?_ | refine qr3 ?_)) | ((with_reducible apply tagN); first | ((with_reducible apply tagD); first | refine qd2 ?_ | refine qd4 ?_) | ((with_reducible apply tagR); first | refine qr2 ?_ | refine qr4 ?_)) | ((with_reducible apply tagW); first | refine qw1 ?_ | refine qw2 ?_ | refine qw3 ?_ | refine qw4 ?_ | refine qw5 ?_ | refine qw6 (fun hb => ?_) (fun hb => ?_) | refine qw7 ?_ | refine qw8 ?_ | refine qw9 ?_ | refine qw0 ?_) | refine thenQ_n ?_ | refine thenQ_e ?_ | refine thenQ_r ?_ | refine blockQ_n ?_ | refine blockQ_r ?_ | refine blockQ_hit ?_ | refine qb4 ?_ | refine qe ?_ | refine loopQ_e ?_ | refine loopQ_r ?_
  all_goals clear E
  all_goals exact ret_dM rfl (by simp_all) rfl rfl
theorem C43b (l : List Impl) (c : Cod) (i : Ins) (hs : List Hint) (k : Int) (h : Hint) (s : ByteArray) (h0 : 0 ≤ i.b) (ht : c.texts[i.b.toNat]? = some s) (h2 : 0 ≤ k) (hk : hs[k.toNat]? = some h) (hl : Sm l) :
    C Try.prog 43 [.d (.sl (implsD l)), .fn 62 [(1000, 0, 0), (1001, 0, 0), (1002, 0, 0), (1003, 0, 0)]] [.box c.cells, .box i.cells, .box [.d (.sl (hintsD hs))], .box [dInt k]] (dInt (idx (fun x => decide (x.name = s) && decide (x.for_ = h.tag)) 0 l)) [.box c.cells, .box i.cells, .box [.d (.sl (hintsD hs))], .box [dInt k]] [] := by
  refine C_intro T_ok (rs := [.tmp 4]) Try.func43 rfl rfl rfl (Nat.le_of_ble_eq_true rfl) (Nat.le_of_ble_eq_true rfl) rfl ⟨rfl, rfl⟩ rfl fun cx hn => ?_
  have hn : cx.n = 19 := hn
  have Y := And.intro T3 (And.intro T9 (And.intro T26 (T67)))
  simp only [enumA, enumO, Nat.reduceAdd]
  repeat' first | refine R_nil ?_ | ((with_reducible apply tagG); first | refine qg1 ?_ | refine qg2 ?_ | refine qg3 ?_ | refine qg4 ?_ | refine qg5 ?_ | refine qg6 (fun hb => ?_) (fun hb => ?_)) | ((with_reducible apply tagS); first | ((with_reducible apply tagD); first | refine qd1 ?_ | refine qd3 ?_) | ((with_reducible apply tagR); first | refine qr1 ?_ | refine qr3 ?_)) | ((with_reducible apply tagN); first | ((with_reducible apply tagD); first | refine qd2 ?_ | refine qd4 ?_) | ((with_reducible apply tagR); first | refine qr2 ?_ | refine qr4 ?_)) | ((with_reducible apply tagW); first | refine qw1 ?_ | refine qw2 ?_ | refine qw3 ?_ | refine qw4 ?_ | refine qw5 ?_ | refine qw6 (fun hb => ?_) (fun hb => ?_) | refine qw7 ?_ | refine qw8 ?_ | refine qw9 ?_ | refine qw0 ?_) | refine thenQ_n ?_ | refine thenQ_e ?_ | refine thenQ_r ?_ | refine blockQ_n ?_ | refine blockQ_r ?_ | refine blockQ_hit ?_ | refine qb4 ?_ | refine qe ?_ | refine loopQ_e ?_ | refine loopQ_r ?_
  refine W_loopQ (fun i : Nat => [(8, dInt i), (7, dInt l.length), (0, .d (.sl (implsD l))), (1, .fn 62 [(1000, 0, 0), (1001, 0, 0), (1002, 0, 0), (1003, 0, 0)])]) (fun _ => [(1000, some (.box c.cells)), (1001, some (.box i.cells)), (1002, some (.box [.d (.sl (hintsD hs))])), (1003, some (.box [dInt k]))]) (fun i => l.length - i) (fun i => i ≤ l.length ∧ idx (fun x => decide (x.name = s) && decide (x.for_ = h.tag)) 0 l = idx (fun x => decide (x.name = s) && decide (x.for_ = h.tag)) i (l.drop i)) 0 ⟨by omega, rfl⟩ qs fun j ⟨hi, he⟩ => ?_
  by_cases hj : j < l.length
  · obtain ⟨x, hx⟩ := get_ex hj
    have h1 : (j:Int) < l.length := by omega
    have E := And.intro @h1 ((implsD_get hx))
    repeat' first | refine R_nil ?_ | ((with_reducible apply tagG); first | refine qg1 ?_ | refine qg2 ?_ | refine qg3 ?_ | refine qg4 ?_ | refine qg5 ?_ | refine qg6 (fun hb => ?_) (fun hb => ?_)) | ((with_reducible apply tagK); first | ((with_reducible apply tagD); first | refine qd7 [1000, 1001, 1002, 1003] (C62 x c i hs k h s h0 ht h2 hk) ?_ | refine qd6 [1000, 1001, 1002, 1003] (C62 x c i hs k h s h0 ht h2 hk) ?_) | ((with_reducible apply tagR); first | refine qr7 [1000, 1001, 1002, 1003] (C62 x c i hs k h s h0 ht h2 hk) ?_ | refine qr6 [1000, 1001, 1002, 1003] (C62 x c i hs k h s h0 ht h2 hk) ?_)) | ((with_reducible apply tagS); first | ((with_reducible apply tagD); first | refine qd1 ?_ | refine qd3 ?_) | ((with_reducible apply tagR); first | refine qr1 ?_ | refine qr3 ?_)) | ((with_reducible apply tagN); first | ((with_reducible apply tagD); first | refine qd2 ?_ | refine qd4 ?_) | ((with_reducible apply tagR); first | refine qr2 ?_ | refine qr4 ?_)) | ((with_reducible apply tagW); first | refine qw1 ?_ | refine qw2 ?_ | refine qw3 ?_ | refine qw4 ?_ | refine qw5 ?_ | refine qw6 (fun hb => ?_) (fun hb => ?_) | refine qw7 ?_ | refine qw8 ?_ | refine qw9 ?_ | refine qw0 ?_) | refine thenQ_n ?_ | refine thenQ_e ?_ | refine thenQ_r ?_ | refine blockQ_n ?_ | refine blockQ_r ?_ | refine blockQ_hit ?_ | refine qb4 ?_ | refine qe ?_ | refine loopQ_e ?_ | refine loopQ_r ?_
    all_goals clear E
    · refine ret_dM rfl ?_ rfl rfl
      rw [he, drop_some hx]; simp_all [idx]
    · refine loopQ_n (j + 1) (by omega) ⟨by omega, ?_⟩ qs
      rw [he, drop_some hx]; simp_all [idx]
  · have h1 : ¬ (j:Int) < l.length := by omega
    have E := @h1
    repeat' first | refine R_nil ?_ | ((with_reducible apply tagG); first | refine qg1 ?_ | refine qg2 ?_ | refine qg3 ?_ | refine qg4 ?_ | refine qg5 ?_ | refine qg6 (fun hb => ?_) (fun hb => ?_)) | ((with_reducible apply tagS); first | ((with_reducible apply tagD); first | refine qd1 ?_ | refine qd3 ?_) | ((with_reducible apply tagR); first | refine qr1 ?_ | refine qr3 ?_)) | ((with_reducible apply tagN); first | ((with_reducible apply tagD); first | refine qd2 ?_ | refine qd4 ?_) | ((with_reducible apply tagR); first | refine qr2 ?_ | refine qr4 ?_)) | ((with_reducible apply tagW); first | refine qw1 ?_ | refine qw2 ?_ | refine qw3 ?_ | refine qw4 ?_ | refine qw5 ?_ | refine qw6 (fun hb => ?_) (fun hb => ?_) | refine qw7 ?_ | refine qw8 ?_ | refine qw9 ?_ | refine qw0 ?_) | refine thenQ_n ?_ | refine thenQ_e ?_ | refine thenQ_r ?_ | refine blockQ_n ?_ | refine blockQ_r ?_ | refine blockQ_hit ?_ | refine qb4 ?_ | refine qe ?_ | refine loopQ_e ?_ | refine loopQ_r ?_
    all_goals clear E
    refine ret_dM rfl ?_ rfl rfl
    rw [he, drop_none hj]; rfl
theorem C64 (pc : Int) (f : Fn) (b : Bool) (at_ : List Int) (z : Int) (hf : Sm f.ins) (h0 : 0 ≤ endAt f.ins f.ins.length pc) (hz : at_[(endAt f.ins f.ins.length pc).toNat]? = some z) :
    C Try.prog 64 [dInt pc, .ptr 1000 0 0, .ptr 1001 0 0, .ptr 1002 0 0] [.box f.cells, .box [dBool b], .box [.d (.sl (ints at_))]] (dInt z) [.box f.cells, .box [dBool (b || !decide (endAt f.ins f.ins.length pc = pc))], .box [.d (.sl (ints at_))]] [] := by
  have hlt : endAt f.ins f.ins.length pc < at_.length := by have := (List.getElem?_eq_some_iff.1 hz).1; omega
  refine C_intro T_ok (rs := [.tmp 5]) Try.func64 rfl rfl rfl (Nat.le_of_ble_eq_true rfl) (Nat.le_of_ble_eq_true rfl) rfl ⟨rfl, rfl⟩ rfl fun cx hn => ?_
  have hn : cx.n = 20 := hn
  have Y := And.intro T3 (And.intro T4 (And.intro T9 (And.intro T23 (And.intro T38 (And.intro T40 (T60))))))
  simp only [enumA, enumO, Nat.reduceAdd]
  have E := (ints_get hz)
  repeat' first | refine R_nil ?_ | ((with_reducible apply tagG); first | refine qg1 ?_ | refine qg2 ?_ | refine qg3 ?_ | refine qg4 ?_ | refine qg5 ?_ | refine qg6 (fun hb => ?_) (fun hb => ?_)) | ((with_reducible apply tagK); first | ((with_reducible apply tagD); first | refine qd5 (C65 f pc hf) ?_) | ((with_reducible apply tagR); first | refine qr5 (C65 f pc hf) ?_)) | ((with_reducible apply tagS); first | ((with_reducible apply tagD); first | refine qd1 ?_ | refine qd3 ?_) | ((with_reducible apply tagR); first | refine qr1 ?_ | refine qr3 ?_)) | ((with_reducible apply tagN); first | ((with_reducible apply tagD); first | refine qd2 ?_ | refine qd4 ?_) | ((with_reducible apply tagR); first | refine qr2 ?_ | refine qr4 ?_)) | ((with_reducible apply tagW); first | refine qw1 ?_ | refine qw2 ?_ | refine qw3 ?_ | refine qw4 ?_ | refine qw5 ?_ | refine qw6 (fun hb => ?_) (fun hb => ?_) | refine qw7 ?_ | refine qw8 ?_ | refine qw9 ?_ | refine qw0 ?_) | refine thenQ_n ?_ | refine thenQ_e ?_ | refine thenQ_r ?_ | refine blockQ_n ?_ | refine blockQ_r ?_ | refine blockQ_hit ?_ | refine qb4 ?_ | refine qe ?_ | refine loopQ_e ?_ | refine loopQ_r ?_
  all_goals clear E
  all_goals exact ret_dM rfl rfl (by rw [hb]; rfl) rfl
def jumps (ins : List Ins) : Nat → Int → Bool
  | 0, _ => true
  | n + 1, pc => match ins[pc.toNat]? with
    | some i => decide (i.op = 3) && jumps ins n i.a
    | none => false
def inside (ins : List Ins) : Prop := ∀ i ∈ ins, i.op = 3 → 0 ≤ i.a ∧ i.a < ins.length
def roundF (ins : List Ins) : Bool := (List.range ins.length).any fun pc => jumps ins (ins.length + 1) pc
end Go.Pw
