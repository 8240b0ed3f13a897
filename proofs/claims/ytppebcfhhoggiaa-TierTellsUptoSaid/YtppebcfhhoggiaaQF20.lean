/- Functions: what is wrong with a function. -/
import Derived.Test.YtppebcfhhoggiaaQF13
import Derived.Test.YtppebcfhhoggiaaQL2
set_option linter.unusedVariables false
set_option linter.unusedSimpArgs false
namespace Go.Pw
open Go Go.Proofs
attribute [local irreducible] runL W endD thenQ blockQ loopQ joinQ
set_option maxRecDepth 8000
set_option maxHeartbeats 8000000
def regsOf (i : Ins) : List Int := readsOf i ++ (if writes i.op then [i.a] else []) ++ (armsOf i).flatMap (·.regs)
def insGood (c : Cod) (f : Fn) (pc : Int) (i : Ins) : Bool := decide (1 ≤ i.op) && decide (i.op < 28) && (nextOf i pc).all (fun n => wi n f.ins.length) && (regsOf i).all (fun r => wi r f.regs) && insOk c i
def goodTo (c : Cod) (f : Fn) (k : Nat) : Prop := ∀ j i, j < k → f.ins[j]? = some i → insGood c f j i = true
def headBad (f : Fn) : Bool := decide (f.params < 0) || decide (f.holds < 0) || decide (2000 < f.params) || decide (2000 < f.holds) || decide (f.regs < f.params + f.holds) || decide (f.ins.length = 0)
def allGood (c : Cod) (f : Fn) : Bool := (List.range f.ins.length).all fun k => match f.ins[k]? with | some i => insGood c f k i | none => true
def funErr (c : Cod) (f : Fn) : Int := if 4000 < f.ins.length ∨ 2000 < f.regs then 2 else if headBad f then 3 else if allGood c f then 0 else 3
theorem allGood_iff (c : Cod) (f : Fn) : allGood c f = true ↔ goodTo c f f.ins.length := by
  simp only [allGood, List.all_eq_true, List.mem_range, goodTo]
  constructor
  · intro h j i hj hi
    have := h j hj; rw [hi] at this; exact this
  · intro h k hk
    obtain ⟨x, hx⟩ := get_ex hk
    rw [hx]; exact h k x hk hx
theorem bad_at {c : Cod} {f : Fn} {k : Nat} {i : Ins} (hi : f.ins[k]? = some i) (hb : insGood c f k i = false) (h1 : ¬ (4000 < f.ins.length ∨ 2000 < f.regs)) : funErr c f = 3 := by
  unfold funErr
  rw [if_neg h1]
  split
  · rfl
  · rw [if_neg]
    intro h
    rw [allGood_iff] at h
    rw [h k i (List.getElem?_eq_some_iff.1 hi).1 hi] at hb
    cases hb
theorem gather_regs : ∀ (f : Nat) (l : List Int) (r : List Arm), gather f l = some r → (r.flatMap (·.regs)).length ≤ l.length
  | 0, _, _, h => by cases h
  | _ + 1, [], r, h => by cases h; simp
  | _ + 1, [_], _, h => by cases h
  | f + 1, p :: n :: l, r, h => by
    simp only [gather] at h
    split at h
    · cases h
    · cases hg : gather f (l.drop n.toNat) with
      | none => rw [hg] at h; cases h
      | some r' =>
        rw [hg] at h; cases h
        have := gather_regs f _ _ hg
        rw [List.length_drop] at this
        simp only [List.length_cons, List.flatMap_cons, List.length_append, List.length_take]; omega
theorem gath_regs (l : List Int) : ((gath l).flatMap (·.regs)).length ≤ l.length := by
  unfold gath gat
  cases h : gather (l.length + 1) l with
  | none => simp
  | some r => exact gather_regs _ _ _ h
theorem armsOf_regs (i : Ins) : ((armsOf i).flatMap (·.regs)).length ≤ i.args.length := by
  unfold armsOf
  split
  · exact gath_regs _
  · split
    · cases h : i.args with
      | nil => simp
      | cons x l => have := gath_regs l; simp only [List.length_cons]; omega
    · simp
theorem readsOf_len (i : Ins) : (readsOf i).length ≤ i.args.length + 2 := by
  unfold readsOf
  repeat' split
  all_goals simp
theorem nextOf_len (i : Ins) (pc : Int) : (nextOf i pc).length ≤ i.args.length + 2 := by
  have := armsOf_len i
  unfold nextOf
  repeat' split
  all_goals simp
  all_goals omega
theorem ints_rows1 (l : List Int) : ∀ e ∈ ints l, e.length = 1 := ints_rows l
theorem all_take {l : List Int} {p : Int → Bool} {j : Nat} {x : Int} (h : (l.take j).all p = true) (hx : l[j]? = some x) (hp : p x = true) : (l.take (j + 1)).all p = true := by
  rw [List.take_add_one, hx, List.all_append, h]; simp [hp]
theorem all_bad {l : List Int} {p : Int → Bool} {j : Nat} {x : Int} (hx : l[j]? = some x) (hp : p x = false) : l.all p = false := by
  rw [List.all_eq_false]
  exact ⟨x, List.mem_of_getElem? hx, by simp [hp]⟩
theorem C59 (c : Cod) (f : Fn) (hf : Sm f.ins) (hs : ∀ i ∈ f.ins, Sm i.args) (hz : ∀ ps ∈ c.pats, psizes ps ≤ 1099511627776) (hk : Sm f.ins) : C Try.prog 59 [c.av, f.av] [] (dInt (funErr c f)) [] [] := by
  by_cases h1 : 4000 < f.ins.length ∨ 2000 < f.regs
  · have e : funErr c f = 2 := by unfold funErr; rw [if_pos h1]
    rw [e]
    by_cases h2 : 4000 < f.ins.length
    · have h3 : (4000:Int) < f.ins.length := by omega
      refine C_intro T_ok (rs := [.tmp 4]) Try.func59 rfl rfl rfl (Nat.le_of_ble_eq_true rfl) (Nat.le_of_ble_eq_true rfl) rfl ⟨rfl, rfl⟩ rfl fun cx hn => ?_
      have hn : cx.n = 137 := hn
      have Y := And.intro T3 (And.intro T4 (And.intro T9 (And.intro T22 (And.intro T23 (And.intro T24 (And.intro T25 (And.intro T26 (And.intro T27 (And.intro T28 (And.intro T30 (And.intro T36 (And.intro T38 (And.intro T40 (And.intro T60 (And.intro T61 (And.intro T63 (And.intro T67 (And.intro T75 (And.intro T77 (And.intro T95 (T98)))))))))))))))))))))
      simp only [enumA, enumO, Nat.reduceAdd]
      have E := @h3
      repeat' first | refine R_nil ?_ | ((with_reducible apply tagG); first | refine qg1 ?_ | refine qg2 ?_ | refine qg3 ?_ | refine qg4 ?_ | refine qg5 ?_ | refine qg6 (fun hb => ?_) (fun hb => ?_)) | ((with_reducible apply tagS); first | ((with_reducible apply tagD); first | refine qd1 ?_ | refine qd3 ?_) | ((with_reducible apply tagR); first | refine qr1 ?_ | refine qr3 ?_)) | ((with_reducible apply tagN); first | ((with_reducible apply tagD); first | refine qd2 ?_ | refine qd4 ?_) | ((with_reducible apply tagR); first | refine qr2 ?_ | refine qr4 ?_)) | ((with_reducible apply tagW); first | refine qw1 ?_ | refine qw2 ?_ | refine qw3 ?_ | refine qw4 ?_ | refine qw5 ?_ | refine qw6 (fun hb => ?_) (fun hb => ?_) | refine qw7 ?_ | refine qw8 ?_ | refine qw9 ?_ | refine qw0 ?_) | refine thenQ_n ?_ | refine thenQ_e ?_ | refine thenQ_r ?_ | refine blockQ_n ?_ | refine blockQ_r ?_ | refine blockQ_hit ?_ | refine qb4 ?_ | refine qe ?_ | refine loopQ_e ?_ | refine loopQ_r ?_ | refine joinQ_e ?_ | refine joinQ_r ?_
      all_goals clear E
      exact ret_d rfl rfl
    · have h3 : ¬ (4000:Int) < f.ins.length := by omega
      have h4 : 2000 < f.regs := by omega
      refine C_intro T_ok (rs := [.tmp 4]) Try.func59 rfl rfl rfl (Nat.le_of_ble_eq_true rfl) (Nat.le_of_ble_eq_true rfl) rfl ⟨rfl, rfl⟩ rfl fun cx hn => ?_
      have hn : cx.n = 137 := hn
      have Y := And.intro T3 (And.intro T4 (And.intro T9 (And.intro T22 (And.intro T23 (And.intro T24 (And.intro T25 (And.intro T26 (And.intro T27 (And.intro T28 (And.intro T30 (And.intro T36 (And.intro T38 (And.intro T40 (And.intro T60 (And.intro T61 (And.intro T63 (And.intro T67 (And.intro T75 (And.intro T77 (And.intro T95 (T98)))))))))))))))))))))
      simp only [enumA, enumO, Nat.reduceAdd]
      have E := And.intro @h3 (@h4)
      repeat' first | refine R_nil ?_ | ((with_reducible apply tagG); first | refine qg1 ?_ | refine qg2 ?_ | refine qg3 ?_ | refine qg4 ?_ | refine qg5 ?_ | refine qg6 (fun hb => ?_) (fun hb => ?_)) | ((with_reducible apply tagS); first | ((with_reducible apply tagD); first | refine qd1 ?_ | refine qd3 ?_) | ((with_reducible apply tagR); first | refine qr1 ?_ | refine qr3 ?_)) | ((with_reducible apply tagN); first | ((with_reducible apply tagD); first | refine qd2 ?_ | refine qd4 ?_) | ((with_reducible apply tagR); first | refine qr2 ?_ | refine qr4 ?_)) | ((with_reducible apply tagW); first | refine qw1 ?_ | refine qw2 ?_ | refine qw3 ?_ | refine qw4 ?_ | refine qw5 ?_ | refine qw6 (fun hb => ?_) (fun hb => ?_) | refine qw7 ?_ | refine qw8 ?_ | refine qw9 ?_ | refine qw0 ?_) | refine thenQ_n ?_ | refine thenQ_e ?_ | refine thenQ_r ?_ | refine blockQ_n ?_ | refine blockQ_r ?_ | refine blockQ_hit ?_ | refine qb4 ?_ | refine qe ?_ | refine loopQ_e ?_ | refine loopQ_r ?_ | refine joinQ_e ?_ | refine joinQ_r ?_
      all_goals clear E
      exact ret_d rfl rfl
  have h2 : ¬ (4000:Int) < f.ins.length := by omega
  have h3 : ¬ 2000 < f.regs := by omega
  by_cases hh : headBad f = true
  · have e : funErr c f = 3 := by unfold funErr; rw [if_neg h1, if_pos hh]
    rw [e]
    refine C_intro T_ok (rs := [.tmp 4]) Try.func59 rfl rfl rfl (Nat.le_of_ble_eq_true rfl) (Nat.le_of_ble_eq_true rfl) rfl ⟨rfl, rfl⟩ rfl fun cx hn => ?_
    have hn : cx.n = 137 := hn
    have Y := And.intro T3 (And.intro T4 (And.intro T9 (And.intro T22 (And.intro T23 (And.intro T24 (And.intro T25 (And.intro T26 (And.intro T27 (And.intro T28 (And.intro T30 (And.intro T36 (And.intro T38 (And.intro T40 (And.intro T60 (And.intro T61 (And.intro T63 (And.intro T67 (And.intro T75 (And.intro T77 (And.intro T95 (T98)))))))))))))))))))))
    simp only [enumA, enumO, Nat.reduceAdd]
    have E := And.intro @h2 (@h3)
    repeat' first | refine R_nil ?_ | ((with_reducible apply tagG); first | refine qg1 ?_ | refine qg2 ?_ | refine qg3 ?_ | refine qg4 ?_ | refine qg5 ?_ | refine qg6 (fun hb => ?_) (fun hb => ?_)) | ((with_reducible apply tagS); first | ((with_reducible apply tagD); first | refine qd1 ?_ | refine qd3 ?_) | ((with_reducible apply tagR); first | refine qr1 ?_ | refine qr3 ?_)) | ((with_reducible apply tagN); first | ((with_reducible apply tagD); first | refine qd2 ?_ | refine qd4 ?_) | ((with_reducible apply tagR); first | refine qr2 ?_ | refine qr4 ?_)) | ((with_reducible apply tagW); first | refine qw1 ?_ | refine qw2 ?_ | refine qw3 ?_ | refine qw4 ?_ | refine qw5 ?_ | refine qw6 (fun hb => ?_) (fun hb => ?_) | refine qw7 ?_ | refine qw8 ?_ | refine qw9 ?_ | refine qw0 ?_) | refine thenQ_n ?_ | refine thenQ_e ?_ | refine thenQ_r ?_ | refine blockQ_n ?_ | refine blockQ_r ?_ | refine blockQ_hit ?_ | refine qb4 ?_ | refine qe ?_ | refine loopQ_e ?_ | refine loopQ_r ?_ | refine joinQ_e ?_ | refine joinQ_r ?_
    all_goals clear E
    all_goals first | exact ret_d rfl rfl | (exfalso; simp [headBad] at hh; simp_all; (try have := wrap_i64 (n := f.params + f.holds) (by omega) (by omega)); omega)
  have hh' : headBad f = false := by simpa using hh
  simp only [headBad, Bool.or_eq_false_iff, decide_eq_false_iff_not] at hh'
  obtain ⟨⟨⟨⟨⟨g1, g2⟩, g3⟩, g4⟩, g5⟩, g6⟩ := hh'
  have g6' : ¬ (f.ins.length : Int) = 0 := by omega
  have g7 : IntKind.i64.wrap (f.params + f.holds) = f.params + f.holds := wrap_i64 (by omega) (by omega)
  refine C_intro T_ok (rs := [.tmp 4]) Try.func59 rfl rfl rfl (Nat.le_of_ble_eq_true rfl) (Nat.le_of_ble_eq_true rfl) rfl ⟨rfl, rfl⟩ rfl fun cx hn => ?_
  have hn : cx.n = 137 := hn
  have Y := And.intro T3 (And.intro T4 (And.intro T9 (And.intro T22 (And.intro T23 (And.intro T24 (And.intro T25 (And.intro T26 (And.intro T27 (And.intro T28 (And.intro T30 (And.intro T36 (And.intro T38 (And.intro T40 (And.intro T60 (And.intro T61 (And.intro T63 (And.intro T67 (And.intro T75 (And.intro T77 (And.intro T95 (T98)))))))))))))))))))))
  simp only [enumA, enumO, Nat.reduceAdd]
  have E := And.intro @h2 (And.intro @h3 (And.intro @g1 (And.intro @g2 (And.intro @g3 (And.intro @g4 (And.intro @g5 (And.intro @g6' (@g7))))))))
  repeat' first | refine R_nil ?_ | ((with_reducible apply tagG); first | refine qg1 ?_ | refine qg2 ?_ | refine qg3 ?_ | refine qg4 ?_ | refine qg5 ?_ | refine qg6 (fun hb => ?_) (fun hb => ?_)) | ((with_reducible apply tagS); first | ((with_reducible apply tagD); first | refine qd1 ?_ | refine qd3 ?_) | ((with_reducible apply tagR); first | refine qr1 ?_ | refine qr3 ?_)) | ((with_reducible apply tagN); first | ((with_reducible apply tagD); first | refine qd2 ?_ | refine qd4 ?_) | ((with_reducible apply tagR); first | refine qr2 ?_ | refine qr4 ?_)) | ((with_reducible apply tagW); first | refine qw1 ?_ | refine qw2 ?_ | refine qw3 ?_ | refine qw4 ?_ | refine qw5 ?_ | refine qw6 (fun hb => ?_) (fun hb => ?_) | refine qw7 ?_ | refine qw8 ?_ | refine qw9 ?_ | refine qw0 ?_) | refine thenQ_n ?_ | refine thenQ_e ?_ | refine thenQ_r ?_ | refine blockQ_n ?_ | refine blockQ_r ?_ | refine blockQ_hit ?_ | refine qb4 ?_ | refine qe ?_ | refine loopQ_e ?_ | refine loopQ_r ?_ | refine joinQ_e ?_ | refine joinQ_r ?_
  all_goals clear E
  refine W_loopQ (fun k : Nat => [(61, dInt k), (60, dInt f.ins.length), (59, .d (.sl (inss f.ins))), (2, .ptr 2 0 0), (3, .ptr 3 0 0)]) (fun _ => [(2, some (.box c.cells)), (3, some (.box f.cells))]) (fun k => f.ins.length - k) (fun k => k ≤ f.ins.length ∧ goodTo c f k) 0 ⟨by omega, fun j i hj => by omega⟩ qs fun k ⟨hk, he⟩ => ?_
  by_cases h : k < f.ins.length
  · obtain ⟨x, hx⟩ := get_ex h
    have hk1 : (k:Int) < f.ins.length := by omega
    have hxs : Sm x.args := hs x (List.mem_of_getElem? hx)
    by_cases ho : x.op < 1
    · have E := And.intro @hk1 (And.intro @ho ((inss_get hx)))
      repeat' first | refine R_nil ?_ | ((with_reducible apply tagG); first | refine qg1 ?_ | refine qg2 ?_ | refine qg3 ?_ | refine qg4 ?_ | refine qg5 ?_ | refine qg6 (fun hb => ?_) (fun hb => ?_)) | ((with_reducible apply tagS); first | ((with_reducible apply tagD); first | refine qd1 ?_ | refine qd3 ?_) | ((with_reducible apply tagR); first | refine qr1 ?_ | refine qr3 ?_)) | ((with_reducible apply tagN); first | ((with_reducible apply tagD); first | refine qd2 ?_ | refine qd4 ?_) | ((with_reducible apply tagR); first | refine qr2 ?_ | refine qr4 ?_)) | ((with_reducible apply tagW); first | refine qw1 ?_ | refine qw2 ?_ | refine qw3 ?_ | refine qw4 ?_ | refine qw5 ?_ | refine qw6 (fun hb => ?_) (fun hb => ?_) | refine qw7 ?_ | refine qw8 ?_ | refine qw9 ?_ | refine qw0 ?_) | refine thenQ_n ?_ | refine thenQ_e ?_ | refine thenQ_r ?_ | refine blockQ_n ?_ | refine blockQ_r ?_ | refine blockQ_hit ?_ | refine qb4 ?_ | refine qe ?_ | refine loopQ_e ?_ | refine loopQ_r ?_ | refine joinQ_e ?_ | refine joinQ_r ?_
      all_goals clear E
      refine ret_d rfl ?_
      rw [bad_at hx (by simp [insGood]; omega) h1]
    by_cases ho2 : 28 ≤ x.op
    · have E := And.intro @hk1 (And.intro @ho (And.intro @ho2 ((inss_get hx))))
      repeat' first | refine R_nil ?_ | ((with_reducible apply tagG); first | refine qg1 ?_ | refine qg2 ?_ | refine qg3 ?_ | refine qg4 ?_ | refine qg5 ?_ | refine qg6 (fun hb => ?_) (fun hb => ?_)) | ((with_reducible apply tagS); first | ((with_reducible apply tagD); first | refine qd1 ?_ | refine qd3 ?_) | ((with_reducible apply tagR); first | refine qr1 ?_ | refine qr3 ?_)) | ((with_reducible apply tagN); first | ((with_reducible apply tagD); first | refine qd2 ?_ | refine qd4 ?_) | ((with_reducible apply tagR); first | refine qr2 ?_ | refine qr4 ?_)) | ((with_reducible apply tagW); first | refine qw1 ?_ | refine qw2 ?_ | refine qw3 ?_ | refine qw4 ?_ | refine qw5 ?_ | refine qw6 (fun hb => ?_) (fun hb => ?_) | refine qw7 ?_ | refine qw8 ?_ | refine qw9 ?_ | refine qw0 ?_) | refine thenQ_n ?_ | refine thenQ_e ?_ | refine thenQ_r ?_ | refine blockQ_n ?_ | refine blockQ_r ?_ | refine blockQ_hit ?_ | refine qb4 ?_ | refine qe ?_ | refine loopQ_e ?_ | refine loopQ_r ?_ | refine joinQ_e ?_ | refine joinQ_r ?_
      all_goals clear E
      refine ret_d rfl ?_
      rw [bad_at hx (by simp [insGood]; omega) h1]
    have E := And.intro @hk1 (And.intro @ho (And.intro @ho2 ((inss_get hx))))
    repeat' first | refine R_nil ?_ | ((with_reducible apply tagG); first | refine qg1 ?_ | refine qg2 ?_ | refine qg3 ?_ | refine qg4 ?_ | refine qg5 ?_ | refine qg6 (fun hb => ?_) (fun hb => ?_)) | ((with_reducible apply tagK); first | ((with_reducible apply tagD); first | refine qd6 [] (C68 x k hxs (by omega) (by omega)) ?_) | ((with_reducible apply tagR); first | refine qr6 [] (C68 x k hxs (by omega) (by omega)) ?_)) | ((with_reducible apply tagS); first | ((with_reducible apply tagD); first | refine qd1 ?_ | refine qd3 ?_) | ((with_reducible apply tagR); first | refine qr1 ?_ | refine qr3 ?_)) | ((with_reducible apply tagN); first | ((with_reducible apply tagD); first | refine qd2 ?_ | refine qd4 ?_) | ((with_reducible apply tagR); first | refine qr2 ?_ | refine qr4 ?_)) | ((with_reducible apply tagW); first | refine qw1 ?_ | refine qw2 ?_ | refine qw3 ?_ | refine qw4 ?_ | refine qw5 ?_ | refine qw6 (fun hb => ?_) (fun hb => ?_) | refine qw7 ?_ | refine qw8 ?_ | refine qw9 ?_ | refine qw0 ?_) | refine thenQ_n ?_ | refine thenQ_e ?_ | refine thenQ_r ?_ | refine blockQ_n ?_ | refine blockQ_r ?_ | refine blockQ_hit ?_ | refine qb4 ?_ | refine qe ?_ | refine loopQ_e ?_ | refine loopQ_r ?_ | refine joinQ_e ?_ | refine joinQ_r ?_
    all_goals clear E
    have hN : insGood c f k x = false → funErr c f = 3 := fun hb => bad_at hx hb h1
    have hb1 : ∀ n, wi n f.ins.length = false → n ∈ nextOf x k → insGood c f k x = false := fun n hn hm => by
      unfold insGood
      rw [show (nextOf x k).all (fun n => wi n f.ins.length) = false from List.all_eq_false.2 ⟨n, hm, by simp [hn]⟩]; simp
    have hb2 : ∀ n, wi n f.regs = false → n ∈ regsOf x → insGood c f k x = false := fun n hn hm => by
      unfold insGood
      rw [show (regsOf x).all (fun n => wi n f.regs) = false from List.all_eq_false.2 ⟨n, hm, by simp [hn]⟩]; simp
    have hrl := readsOf_len x
    have hal := armsOf_regs x
    have hnl := nextOf_len x k
    have hml := armsOf_len x
    refine W_loopQ (fun j : Nat => [(78, dInt j), (77, dInt (nextOf x k).length), (76, .ref 2608 0 (nextOf x k).length), (6, .ptr 6 0 0), (5, dInt k), (61, dInt k), (60, dInt f.ins.length), (59, .d (.sl (inss f.ins))), (2, .ptr 2 0 0), (3, .ptr 3 0 0)]) (fun _ => [(2608, some (.row 1 (ints (nextOf x k)))), (6, some (.box x.cells)), (2, some (.box c.cells)), (3, some (.box f.cells))]) (fun j => (nextOf x k).length - j) (fun j => j ≤ (nextOf x k).length ∧ ((nextOf x k).take j).all (fun n => wi n f.ins.length) = true) 0 ⟨by omega, rfl⟩ qs fun j ⟨hj, hj2⟩ => ?_
    by_cases hjl : j < (nextOf x k).length
    · obtain ⟨y, hy⟩ := get_ex hjl
      have hj1 : (j:Int) < (nextOf x k).length := by omega
      have e0 : (ints (nextOf x k)).take (nextOf x k).length = ints (nextOf x k) := take_all _ _ (by omega)
      have hym := List.mem_of_getElem? hy
      by_cases hy0 : y < 0
      · have E := And.intro @hj1 (And.intro @hy0 (And.intro @e0 ((ints_get hy))))
        repeat' first | refine R_nil ?_ | ((with_reducible apply tagG); first | refine qg1 ?_ | refine qg2 ?_ | refine qg3 ?_ | refine qg4 ?_ | refine qg5 ?_ | refine qg6 (fun hb => ?_) (fun hb => ?_)) | ((with_reducible apply tagS); first | ((with_reducible apply tagD); first | refine qd1 ?_ | refine qd3 ?_) | ((with_reducible apply tagR); first | refine qr1 ?_ | refine qr3 ?_)) | ((with_reducible apply tagN); first | ((with_reducible apply tagD); first | refine qd2 ?_ | refine qd4 ?_) | ((with_reducible apply tagR); first | refine qr2 ?_ | refine qr4 ?_)) | ((with_reducible apply tagW); first | refine qw1 ?_ | refine qw2 ?_ | refine qw3 ?_ | refine qw4 ?_ | refine qw5 ?_ | refine qw6 (fun hb => ?_) (fun hb => ?_) | refine qw7 ?_ | refine qw8 ?_ | refine qw9 ?_ | refine qw0 ?_) | refine thenQ_n ?_ | refine thenQ_e ?_ | refine thenQ_r ?_ | refine blockQ_n ?_ | refine blockQ_r ?_ | refine blockQ_hit ?_ | refine qb4 ?_ | refine qe ?_ | refine loopQ_e ?_ | refine loopQ_r ?_ | refine joinQ_e ?_ | refine joinQ_r ?_
        all_goals clear E
        refine ret_d rfl ?_
        rw [hN (hb1 y (by simp [wi]; omega) hym)]
      by_cases hy1 : (f.ins.length : Int) ≤ y
      · have E := And.intro @hj1 (And.intro @hy0 (And.intro @hy1 (And.intro @e0 ((ints_get hy)))))
        repeat' first | refine R_nil ?_ | ((with_reducible apply tagG); first | refine qg1 ?_ | refine qg2 ?_ | refine qg3 ?_ | refine qg4 ?_ | refine qg5 ?_ | refine qg6 (fun hb => ?_) (fun hb => ?_)) | ((with_reducible apply tagS); first | ((with_reducible apply tagD); first | refine qd1 ?_ | refine qd3 ?_) | ((with_reducible apply tagR); first | refine qr1 ?_ | refine qr3 ?_)) | ((with_reducible apply tagN); first | ((with_reducible apply tagD); first | refine qd2 ?_ | refine qd4 ?_) | ((with_reducible apply tagR); first | refine qr2 ?_ | refine qr4 ?_)) | ((with_reducible apply tagW); first | refine qw1 ?_ | refine qw2 ?_ | refine qw3 ?_ | refine qw4 ?_ | refine qw5 ?_ | refine qw6 (fun hb => ?_) (fun hb => ?_) | refine qw7 ?_ | refine qw8 ?_ | refine qw9 ?_ | refine qw0 ?_) | refine thenQ_n ?_ | refine thenQ_e ?_ | refine thenQ_r ?_ | refine blockQ_n ?_ | refine blockQ_r ?_ | refine blockQ_hit ?_ | refine qb4 ?_ | refine qe ?_ | refine loopQ_e ?_ | refine loopQ_r ?_ | refine joinQ_e ?_ | refine joinQ_r ?_
        all_goals clear E
        refine ret_d rfl ?_
        rw [hN (hb1 y (by simp [wi]; omega) hym)]
      have E := And.intro @hj1 (And.intro @hy0 (And.intro @hy1 (And.intro @e0 ((ints_get hy)))))
      repeat' first | refine R_nil ?_ | ((with_reducible apply tagG); first | refine qg1 ?_ | refine qg2 ?_ | refine qg3 ?_ | refine qg4 ?_ | refine qg5 ?_ | refine qg6 (fun hb => ?_) (fun hb => ?_)) | ((with_reducible apply tagS); first | ((with_reducible apply tagD); first | refine qd1 ?_ | refine qd3 ?_) | ((with_reducible apply tagR); first | refine qr1 ?_ | refine qr3 ?_)) | ((with_reducible apply tagN); first | ((with_reducible apply tagD); first | refine qd2 ?_ | refine qd4 ?_) | ((with_reducible apply tagR); first | refine qr2 ?_ | refine qr4 ?_)) | ((with_reducible apply tagW); first | refine qw1 ?_ | refine qw2 ?_ | refine qw3 ?_ | refine qw4 ?_ | refine qw5 ?_ | refine qw6 (fun hb => ?_) (fun hb => ?_) | refine qw7 ?_ | refine qw8 ?_ | refine qw9 ?_ | refine qw0 ?_) | refine thenQ_n ?_ | refine thenQ_e ?_ | refine thenQ_r ?_ | refine blockQ_n ?_ | refine blockQ_r ?_ | refine blockQ_hit ?_ | refine qb4 ?_ | refine qe ?_ | refine loopQ_e ?_ | refine loopQ_r ?_ | refine joinQ_e ?_ | refine joinQ_r ?_
      all_goals clear E
      refine loopQ_n (j + 1) (by omega) ⟨by omega, all_take hj2 hy (by simp [wi]; omega)⟩ qs
    have hj1 : ¬ (j:Int) < (nextOf x k).length := by omega
    have hnx : (nextOf x k).all (fun n => wi n f.ins.length) = true := by rw [List.take_of_length_le (by omega)] at hj2; exact hj2
    clear hj2
    have d0 : (ints (readsOf x)).take (readsOf x).length = ints (readsOf x) := take_all _ _ (by omega)
    have d1 : ints (readsOf x) ++ [[DI x.a]] = ints (readsOf x ++ [x.a]) := by simp [ints]
    have E := @hj1
    repeat' first | refine R_nil ?_ | ((with_reducible apply tagG); first | refine qg1 ?_ | refine qg2 ?_ | refine qg3 ?_ | refine qg4 ?_ | refine qg5 ?_ | refine qg6 (fun hb => ?_) (fun hb => ?_)) | ((with_reducible apply tagK); first | ((with_reducible apply tagD); first | refine qd6 [] (C69 x hxs) ?_ | refine qd5 (C70 x.op) ?_) | ((with_reducible apply tagR); first | refine qr6 [] (C69 x hxs) ?_ | refine qr5 (C70 x.op) ?_)) | ((with_reducible apply tagS); first | ((with_reducible apply tagD); first | refine qd1 ?_ | refine qd3 ?_) | ((with_reducible apply tagR); first | refine qr1 ?_ | refine qr3 ?_)) | ((with_reducible apply tagN); first | ((with_reducible apply tagD); first | refine qd2 ?_ | refine qd4 ?_) | ((with_reducible apply tagR); first | refine qr2 ?_ | refine qr4 ?_)) | ((with_reducible apply tagW); first | refine qw1 ?_ | refine qw2 ?_ | refine qw3 ?_ | refine qw4 ?_ | refine qw5 ?_ | refine qw7 ?_ | refine qw8 ?_ | refine qw9 ?_ | refine qw0 ?_) | refine thenQ_n ?_ | refine thenQ_e ?_ | refine thenQ_r ?_ | refine blockQ_n ?_ | refine blockQ_r ?_ | refine blockQ_hit ?_ | refine qb4 ?_ | refine qe ?_ | refine loopQ_e ?_ | refine loopQ_r ?_ | refine joinQ_e ?_ | refine joinQ_r ?_
    all_goals clear E
    refine thenQ_j (α := List Int) (fun A => [(9, .ref 2744 0 A.length), (6, .ptr 6 0 0), (61, dInt k), (60, dInt f.ins.length), (59, .d (.sl (inss f.ins))), (2, .ptr 2 0 0), (3, .ptr 3 0 0)]) (fun A => [(2744, some (.row 1 (ints A))), (6, some (.box x.cells)), (2, some (.box c.cells)), (3, some (.box f.cells))]) (fun A => A = readsOf x ++ (if writes x.op then [x.a] else [])) ?_ fun A hA => ?_
    · cases hw : writes x.op with
      | true =>
        have E := And.intro @d0 (@d1)
        repeat' first | refine R_nil ?_ | ((with_reducible apply tagG); first | refine qg1 ?_ | refine qg2 ?_ | refine qg3 ?_ | refine qg4 ?_ | refine qg5 ?_ | refine qg6 (fun hb => ?_) (fun hb => ?_)) | ((with_reducible apply tagS); first | ((with_reducible apply tagD); first | refine qd1 ?_ | refine qd3 ?_) | ((with_reducible apply tagR); first | refine qr1 ?_ | refine qr3 ?_)) | ((with_reducible apply tagN); first | ((with_reducible apply tagD); first | refine qd2 ?_ | refine qd4 ?_) | ((with_reducible apply tagR); first | refine qr2 ?_ | refine qr4 ?_)) | ((with_reducible apply tagW); first | refine qw1 ?_ | refine qw2 ?_ | refine qw3 ?_ | refine qw4 ?_ | refine qw5 ?_ | refine qw6 (fun hb => ?_) (fun hb => ?_) | refine qw7 ?_ | refine qw8 ?_ | refine qw9 ?_ | refine qw0 ?_) | refine thenQ_n ?_ | refine thenQ_e ?_ | refine thenQ_r ?_ | refine blockQ_n ?_ | refine blockQ_r ?_ | refine blockQ_hit ?_ | refine qb4 ?_ | refine qe ?_ | refine loopQ_e ?_ | refine loopQ_r ?_ | refine joinQ_e ?_ | refine joinQ_r ?_
        all_goals clear E
        refine joinQ_n (readsOf x ++ [x.a]) (by simp) (by have E := @List.length_append.{0}; exact qs)
      | false =>
        have E := @d0
        repeat' first | refine R_nil ?_ | ((with_reducible apply tagG); first | refine qg1 ?_ | refine qg2 ?_ | refine qg3 ?_ | refine qg4 ?_ | refine qg5 ?_ | refine qg6 (fun hb => ?_) (fun hb => ?_)) | ((with_reducible apply tagS); first | ((with_reducible apply tagD); first | refine qd1 ?_ | refine qd3 ?_) | ((with_reducible apply tagR); first | refine qr1 ?_ | refine qr3 ?_)) | ((with_reducible apply tagN); first | ((with_reducible apply tagD); first | refine qd2 ?_ | refine qd4 ?_) | ((with_reducible apply tagR); first | refine qr2 ?_ | refine qr4 ?_)) | ((with_reducible apply tagW); first | refine qw1 ?_ | refine qw2 ?_ | refine qw3 ?_ | refine qw4 ?_ | refine qw5 ?_ | refine qw6 (fun hb => ?_) (fun hb => ?_) | refine qw7 ?_ | refine qw8 ?_ | refine qw9 ?_ | refine qw0 ?_) | refine thenQ_n ?_ | refine thenQ_e ?_ | refine thenQ_r ?_ | refine blockQ_n ?_ | refine blockQ_r ?_ | refine blockQ_hit ?_ | refine qb4 ?_ | refine qe ?_ | refine loopQ_e ?_ | refine loopQ_r ?_ | refine joinQ_e ?_ | refine joinQ_r ?_
        all_goals clear E
        refine joinQ_n (readsOf x) (by simp) qs
    have hAl : A.length ≤ x.args.length + 3 := by rw [hA]; split <;> simp <;> omega
    have E := @d0
    repeat' first | refine R_nil ?_ | ((with_reducible apply tagG); first | refine qg1 ?_ | refine qg2 ?_ | refine qg3 ?_ | refine qg4 ?_ | refine qg5 ?_ | refine qg6 (fun hb => ?_) (fun hb => ?_)) | ((with_reducible apply tagK); first | ((with_reducible apply tagD); first | refine qd6 [] (C66 x hxs) ?_) | ((with_reducible apply tagR); first | refine qr6 [] (C66 x hxs) ?_)) | ((with_reducible apply tagS); first | ((with_reducible apply tagD); first | refine qd1 ?_ | refine qd3 ?_) | ((with_reducible apply tagR); first | refine qr1 ?_ | refine qr3 ?_)) | ((with_reducible apply tagN); first | ((with_reducible apply tagD); first | refine qd2 ?_ | refine qd4 ?_) | ((with_reducible apply tagR); first | refine qr2 ?_ | refine qr4 ?_)) | ((with_reducible apply tagW); first | refine qw1 ?_ | refine qw2 ?_ | refine qw3 ?_ | refine qw4 ?_ | refine qw5 ?_ | refine qw6 (fun hb => ?_) (fun hb => ?_) | refine qw7 ?_ | refine qw8 ?_ | refine qw9 ?_ | refine qw0 ?_) | refine thenQ_n ?_ | refine thenQ_e ?_ | refine thenQ_r ?_ | refine blockQ_n ?_ | refine blockQ_r ?_ | refine blockQ_hit ?_ | refine qb4 ?_ | refine qe ?_ | refine loopQ_e ?_ | refine loopQ_r ?_ | refine joinQ_e ?_ | refine joinQ_r ?_
    all_goals clear E
    refine W_loopQ (fun j : Nat => [(105, dInt j), (104, dInt (armsOf x).length), (103, .ref 2824 0 (armsOf x).length), (9, .ref 2744 0 (A ++ ((armsOf x).take j).flatMap (·.regs)).length), (6, .ptr 6 0 0), (61, dInt k), (60, dInt f.ins.length), (59, .d (.sl (inss f.ins))), (2, .ptr 2 0 0), (3, .ptr 3 0 0)]) (fun j => [(2824, some (.row 2 (armsD (armsOf x)))), (2744, some (.row 1 (ints (A ++ ((armsOf x).take j).flatMap (·.regs))))), (6, some (.box x.cells)), (2, some (.box c.cells)), (3, some (.box f.cells))]) (fun j => (armsOf x).length - j) (fun j => j ≤ (armsOf x).length) 0 (by omega) (by simp only [List.take_zero, List.flatMap_nil, List.append_nil]; exact qs) fun j hj => ?_
    by_cases hjl : j < (armsOf x).length
    · obtain ⟨y, hy⟩ := get_ex hjl
      have hj1 : (j:Int) < (armsOf x).length := by omega
      have e0 : (armsD (armsOf x)).take (armsOf x).length = armsD (armsOf x) := List.take_of_length_le (by rw [armsD_len]; omega)
      have e1 : A ++ ((armsOf x).take (j + 1)).flatMap (·.regs) = (A ++ ((armsOf x).take j).flatMap (·.regs)) ++ y.regs := by
        rw [List.take_add_one, hy]; simp
      have hle : (A ++ ((armsOf x).take (j + 1)).flatMap (·.regs)).length ≤ A.length + x.args.length := by
        rw [List.length_append]
        refine Nat.add_le_add_left (Nat.le_trans ?_ hal) _
        conv => rhs; rw [← List.take_append_drop (j + 1) (armsOf x)]
        rw [List.flatMap_append, List.length_append]; omega
      rw [e1] at hle
      generalize A ++ ((armsOf x).take j).flatMap (·.regs) = B at *
      have e2 : (ints B).take B.length = ints B := take_all _ _ (by omega)
      have e3 : ints B ++ ints y.regs = ints (B ++ y.regs) := by simp [ints]
      rw [List.length_append] at hle
      have E := And.intro @hj1 (And.intro @e0 (And.intro @e2 (And.intro @e3 ((armsD_get hy)))))
      repeat' first | refine R_nil ?_ | ((with_reducible apply tagG); first | refine qg1 ?_ | refine qg2 ?_ | refine qg3 ?_ | refine qg4 ?_ | refine qg5 ?_ | refine qg6 (fun hb => ?_) (fun hb => ?_)) | ((with_reducible apply tagS); first | ((with_reducible apply tagD); first | refine qd1 ?_ | refine qd3 ?_) | ((with_reducible apply tagR); first | refine qr1 ?_ | refine qr3 ?_)) | ((with_reducible apply tagN); first | ((with_reducible apply tagD); first | refine qd2 ?_ | refine qd4 ?_) | ((with_reducible apply tagR); first | refine qr2 ?_ | refine qr4 ?_)) | ((with_reducible apply tagW); first | refine qw1 ?_ | refine qw2 ?_ | refine qw3 ?_ | refine qw4 ?_ | refine qw5 ?_ | refine qw6 (fun hb => ?_) (fun hb => ?_) | refine qw7 ?_ | refine qw8 ?_ | refine qw9 ?_ | refine qw0 ?_) | refine thenQ_n ?_ | refine thenQ_e ?_ | refine thenQ_r ?_ | refine blockQ_n ?_ | refine blockQ_r ?_ | refine blockQ_hit ?_ | refine qb4 ?_ | refine qe ?_ | refine loopQ_e ?_ | refine loopQ_r ?_ | refine joinQ_e ?_ | refine joinQ_r ?_
      all_goals clear E
      refine loopQ_n (j + 1) (by omega) (by omega) (by rw [e1]; exact qs)
    have hj1 : ¬ (j:Int) < (armsOf x).length := by omega
    have hR : A ++ ((armsOf x).take j).flatMap (·.regs) = regsOf x := by
      rw [List.take_of_length_le (by omega), hA]; rfl
    have hRl : (regsOf x).length ≤ 2 * x.args.length + 3 := by rw [← hR, List.length_append, List.take_of_length_le (by omega)]; omega
    rw [hR]
    have E := @hj1
    repeat' first | refine R_nil ?_ | ((with_reducible apply tagG); first | refine qg1 ?_ | refine qg2 ?_ | refine qg3 ?_ | refine qg4 ?_ | refine qg5 ?_ | refine qg6 (fun hb => ?_) (fun hb => ?_)) | ((with_reducible apply tagS); first | ((with_reducible apply tagD); first | refine qd1 ?_ | refine qd3 ?_) | ((with_reducible apply tagR); first | refine qr1 ?_ | refine qr3 ?_)) | ((with_reducible apply tagN); first | ((with_reducible apply tagD); first | refine qd2 ?_ | refine qd4 ?_) | ((with_reducible apply tagR); first | refine qr2 ?_ | refine qr4 ?_)) | ((with_reducible apply tagW); first | refine qw1 ?_ | refine qw2 ?_ | refine qw3 ?_ | refine qw4 ?_ | refine qw5 ?_ | refine qw6 (fun hb => ?_) (fun hb => ?_) | refine qw7 ?_ | refine qw8 ?_ | refine qw9 ?_ | refine qw0 ?_) | refine thenQ_n ?_ | refine thenQ_e ?_ | refine thenQ_r ?_ | refine blockQ_n ?_ | refine blockQ_r ?_ | refine blockQ_hit ?_ | refine qb4 ?_ | refine qe ?_ | refine loopQ_e ?_ | refine loopQ_r ?_ | refine joinQ_e ?_ | refine joinQ_r ?_
    all_goals clear E
    refine W_loopQ (fun j : Nat => [(116, dInt j), (115, dInt (regsOf x).length), (114, .ref 2744 0 (regsOf x).length), (6, .ptr 6 0 0), (61, dInt k), (60, dInt f.ins.length), (59, .d (.sl (inss f.ins))), (2, .ptr 2 0 0), (3, .ptr 3 0 0)]) (fun _ => [(2744, some (.row 1 (ints (regsOf x)))), (6, some (.box x.cells)), (2, some (.box c.cells)), (3, some (.box f.cells))]) (fun j => (regsOf x).length - j) (fun j => j ≤ (regsOf x).length ∧ ((regsOf x).take j).all (fun n => wi n f.regs) = true) 0 ⟨by omega, rfl⟩ qs fun j ⟨hj, hj2⟩ => ?_
    by_cases hjl : j < (regsOf x).length
    · obtain ⟨y, hy⟩ := get_ex hjl
      have hj1 : (j:Int) < (regsOf x).length := by omega
      have e0 : (ints (regsOf x)).take (regsOf x).length = ints (regsOf x) := take_all _ _ (by omega)
      have hym := List.mem_of_getElem? hy
      by_cases hy0 : y < 0
      · have E := And.intro @hj1 (And.intro @hy0 (And.intro @e0 ((ints_get hy))))
        repeat' first | refine R_nil ?_ | ((with_reducible apply tagG); first | refine qg1 ?_ | refine qg2 ?_ | refine qg3 ?_ | refine qg4 ?_ | refine qg5 ?_ | refine qg6 (fun hb => ?_) (fun hb => ?_)) | ((with_reducible apply tagS); first | ((with_reducible apply tagD); first | refine qd1 ?_ | refine qd3 ?_) | ((with_reducible apply tagR); first | refine qr1 ?_ | refine qr3 ?_)) | ((with_reducible apply tagN); first | ((with_reducible apply tagD); first | refine qd2 ?_ | refine qd4 ?_) | ((with_reducible apply tagR); first | refine qr2 ?_ | refine qr4 ?_)) | ((with_reducible apply tagW); first | refine qw1 ?_ | refine qw2 ?_ | refine qw3 ?_ | refine qw4 ?_ | refine qw5 ?_ | refine qw6 (fun hb => ?_) (fun hb => ?_) | refine qw7 ?_ | refine qw8 ?_ | refine qw9 ?_ | refine qw0 ?_) | refine thenQ_n ?_ | refine thenQ_e ?_ | refine thenQ_r ?_ | refine blockQ_n ?_ | refine blockQ_r ?_ | refine blockQ_hit ?_ | refine qb4 ?_ | refine qe ?_ | refine loopQ_e ?_ | refine loopQ_r ?_ | refine joinQ_e ?_ | refine joinQ_r ?_
        all_goals clear E
        refine ret_d rfl ?_
        rw [hN (hb2 y (by simp [wi]; omega) hym)]
      by_cases hy1 : f.regs ≤ y
      · have E := And.intro @hj1 (And.intro @hy0 (And.intro @hy1 (And.intro @e0 ((ints_get hy)))))
        repeat' first | refine R_nil ?_ | ((with_reducible apply tagG); first | refine qg1 ?_ | refine qg2 ?_ | refine qg3 ?_ | refine qg4 ?_ | refine qg5 ?_ | refine qg6 (fun hb => ?_) (fun hb => ?_)) | ((with_reducible apply tagS); first | ((with_reducible apply tagD); first | refine qd1 ?_ | refine qd3 ?_) | ((with_reducible apply tagR); first | refine qr1 ?_ | refine qr3 ?_)) | ((with_reducible apply tagN); first | ((with_reducible apply tagD); first | refine qd2 ?_ | refine qd4 ?_) | ((with_reducible apply tagR); first | refine qr2 ?_ | refine qr4 ?_)) | ((with_reducible apply tagW); first | refine qw1 ?_ | refine qw2 ?_ | refine qw3 ?_ | refine qw4 ?_ | refine qw5 ?_ | refine qw6 (fun hb => ?_) (fun hb => ?_) | refine qw7 ?_ | refine qw8 ?_ | refine qw9 ?_ | refine qw0 ?_) | refine thenQ_n ?_ | refine thenQ_e ?_ | refine thenQ_r ?_ | refine blockQ_n ?_ | refine blockQ_r ?_ | refine blockQ_hit ?_ | refine qb4 ?_ | refine qe ?_ | refine loopQ_e ?_ | refine loopQ_r ?_ | refine joinQ_e ?_ | refine joinQ_r ?_
        all_goals clear E
        refine ret_d rfl ?_
        rw [hN (hb2 y (by simp [wi]; omega) hym)]
      have E := And.intro @hj1 (And.intro @hy0 (And.intro @hy1 (And.intro @e0 ((ints_get hy)))))
      repeat' first | refine R_nil ?_ | ((with_reducible apply tagG); first | refine qg1 ?_ | refine qg2 ?_ | refine qg3 ?_ | refine qg4 ?_ | refine qg5 ?_ | refine qg6 (fun hb => ?_) (fun hb => ?_)) | ((with_reducible apply tagS); first | ((with_reducible apply tagD); first | refine qd1 ?_ | refine qd3 ?_) | ((with_reducible apply tagR); first | refine qr1 ?_ | refine qr3 ?_)) | ((with_reducible apply tagN); first | ((with_reducible apply tagD); first | refine qd2 ?_ | refine qd4 ?_) | ((with_reducible apply tagR); first | refine qr2 ?_ | refine qr4 ?_)) | ((with_reducible apply tagW); first | refine qw1 ?_ | refine qw2 ?_ | refine qw3 ?_ | refine qw4 ?_ | refine qw5 ?_ | refine qw6 (fun hb => ?_) (fun hb => ?_) | refine qw7 ?_ | refine qw8 ?_ | refine qw9 ?_ | refine qw0 ?_) | refine thenQ_n ?_ | refine thenQ_e ?_ | refine thenQ_r ?_ | refine blockQ_n ?_ | refine blockQ_r ?_ | refine blockQ_hit ?_ | refine qb4 ?_ | refine qe ?_ | refine loopQ_e ?_ | refine loopQ_r ?_ | refine joinQ_e ?_ | refine joinQ_r ?_
      all_goals clear E
      refine loopQ_n (j + 1) (by omega) ⟨by omega, all_take hj2 hy (by simp [wi]; omega)⟩ qs
    have hj1 : ¬ (j:Int) < (regsOf x).length := by omega
    have hrx : (regsOf x).all (fun n => wi n f.regs) = true := by rw [List.take_of_length_le (by omega)] at hj2; exact hj2
    cases hio : insOk c x with
    | false =>
      have hC := C71 c f x hxs hz
      rw [hio] at hC
      have E := @hj1
      repeat' first | refine R_nil ?_ | ((with_reducible apply tagG); first | refine qg1 ?_ | refine qg2 ?_ | refine qg3 ?_ | refine qg4 ?_ | refine qg5 ?_ | refine qg6 (fun hb => ?_) (fun hb => ?_)) | ((with_reducible apply tagK); first | ((with_reducible apply tagD); first | refine qd5 (hC) ?_) | ((with_reducible apply tagR); first | refine qr5 (hC) ?_)) | ((with_reducible apply tagS); first | ((with_reducible apply tagD); first | refine qd1 ?_ | refine qd3 ?_) | ((with_reducible apply tagR); first | refine qr1 ?_ | refine qr3 ?_)) | ((with_reducible apply tagN); first | ((with_reducible apply tagD); first | refine qd2 ?_ | refine qd4 ?_) | ((with_reducible apply tagR); first | refine qr2 ?_ | refine qr4 ?_)) | ((with_reducible apply tagW); first | refine qw1 ?_ | refine qw2 ?_ | refine qw3 ?_ | refine qw4 ?_ | refine qw5 ?_ | refine qw6 (fun hb => ?_) (fun hb => ?_) | refine qw7 ?_ | refine qw8 ?_ | refine qw9 ?_ | refine qw0 ?_) | refine thenQ_n ?_ | refine thenQ_e ?_ | refine thenQ_r ?_ | refine blockQ_n ?_ | refine blockQ_r ?_ | refine blockQ_hit ?_ | refine qb4 ?_ | refine qe ?_ | refine loopQ_e ?_ | refine loopQ_r ?_ | refine joinQ_e ?_ | refine joinQ_r ?_
      all_goals clear E
      refine ret_d rfl ?_
      rw [hN (by simp [insGood, hio])]
    | true =>
      have hC := C71 c f x hxs hz
      rw [hio] at hC
      have E := @hj1
      repeat' first | refine R_nil ?_ | ((with_reducible apply tagG); first | refine qg1 ?_ | refine qg2 ?_ | refine qg3 ?_ | refine qg4 ?_ | refine qg5 ?_ | refine qg6 (fun hb => ?_) (fun hb => ?_)) | ((with_reducible apply tagK); first | ((with_reducible apply tagD); first | refine qd5 (hC) ?_) | ((with_reducible apply tagR); first | refine qr5 (hC) ?_)) | ((with_reducible apply tagS); first | ((with_reducible apply tagD); first | refine qd1 ?_ | refine qd3 ?_) | ((with_reducible apply tagR); first | refine qr1 ?_ | refine qr3 ?_)) | ((with_reducible apply tagN); first | ((with_reducible apply tagD); first | refine qd2 ?_ | refine qd4 ?_) | ((with_reducible apply tagR); first | refine qr2 ?_ | refine qr4 ?_)) | ((with_reducible apply tagW); first | refine qw1 ?_ | refine qw2 ?_ | refine qw3 ?_ | refine qw4 ?_ | refine qw5 ?_ | refine qw6 (fun hb => ?_) (fun hb => ?_) | refine qw7 ?_ | refine qw8 ?_ | refine qw9 ?_ | refine qw0 ?_) | refine thenQ_n ?_ | refine thenQ_e ?_ | refine thenQ_r ?_ | refine blockQ_n ?_ | refine blockQ_r ?_ | refine blockQ_hit ?_ | refine qb4 ?_ | refine qe ?_ | refine loopQ_e ?_ | refine loopQ_r ?_ | refine joinQ_e ?_ | refine joinQ_r ?_
      all_goals clear E
      refine loopQ_n (k + 1) (by omega) ⟨by omega, fun j i hj hi => ?_⟩ qs
      by_cases hjk : j = k
      · subst hjk
        rw [hx] at hi; cases hi
        simp only [insGood, hnx, hrx, hio, Bool.and_true, Bool.and_eq_true, decide_eq_true_eq]; omega
      · exact he j i (by omega) hi
  · have hk1 : ¬ (k:Int) < f.ins.length := by omega
    have E := @hk1
    repeat' first | refine R_nil ?_ | ((with_reducible apply tagG); first | refine qg1 ?_ | refine qg2 ?_ | refine qg3 ?_ | refine qg4 ?_ | refine qg5 ?_ | refine qg6 (fun hb => ?_) (fun hb => ?_)) | ((with_reducible apply tagS); first | ((with_reducible apply tagD); first | refine qd1 ?_ | refine qd3 ?_) | ((with_reducible apply tagR); first | refine qr1 ?_ | refine qr3 ?_)) | ((with_reducible apply tagN); first | ((with_reducible apply tagD); first | refine qd2 ?_ | refine qd4 ?_) | ((with_reducible apply tagR); first | refine qr2 ?_ | refine qr4 ?_)) | ((with_reducible apply tagW); first | refine qw1 ?_ | refine qw2 ?_ | refine qw3 ?_ | refine qw4 ?_ | refine qw5 ?_ | refine qw6 (fun hb => ?_) (fun hb => ?_) | refine qw7 ?_ | refine qw8 ?_ | refine qw9 ?_ | refine qw0 ?_) | refine thenQ_n ?_ | refine thenQ_e ?_ | refine thenQ_r ?_ | refine blockQ_n ?_ | refine blockQ_r ?_ | refine blockQ_hit ?_ | refine qb4 ?_ | refine qe ?_ | refine loopQ_e ?_ | refine loopQ_r ?_ | refine joinQ_e ?_ | refine joinQ_r ?_
    all_goals clear E
    refine ret_d rfl ?_
    have : k = f.ins.length := by omega
    subst this
    unfold funErr
    rw [if_neg h1, if_neg hh, if_pos ((allGood_iff c f).2 he)]
end Go.Pw
