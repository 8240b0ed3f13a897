/- Functions: closures of the law, and what jumps lead to. -/
import Derived.Test.YtppebcfhhoggiaaQF1
import Derived.Test.YtppebcfhhoggiaaQL2
set_option linter.unusedVariables false
set_option linter.unusedSimpArgs false
namespace Go.Pw
open Go Go.Proofs
attribute [local irreducible] runL W endD thenQ blockQ loopQ
set_option maxRecDepth 4000
def sameIns (x y : Ins) : Bool := decide (x.op = y.op) && (decide (x.a = y.a) && (decide (x.b = y.b) && (decide (x.c = y.c) && decide (x.args = y.args))))
theorem C50 (x y : Ins) (hx : Sm x.args) (hy : Sm y.args) : C Try.prog 50 [x.av, y.av] [] (dBool (sameIns x y)) [] [] := by
  refine C_intro T_ok (rs := [.tmp 4]) Try.func50 rfl rfl rfl (Nat.le_of_ble_eq_true rfl) (Nat.le_of_ble_eq_true rfl) rfl ⟨rfl, rfl⟩ rfl fun cx hn => ?_
  have hn : cx.n = 38 := hn
  have Y := And.intro T3 (And.intro T23 (T60))
  simp only [enumA, enumO, Nat.reduceAdd]
  repeat' first | refine R_nil ?_ | ((with_reducible apply tagG); first | refine qg1 ?_ | refine qg2 ?_ | refine qg3 ?_ | refine qg4 ?_ | refine qg5 ?_ | refine qg6 (fun hb => ?_) (fun hb => ?_)) | ((with_reducible apply tagK); first | ((with_reducible apply tagD); first | refine qd5 (C51 x.args y.args hx hy) ?_) | ((with_reducible apply tagR); first | refine qr5 (C51 x.args y.args hx hy) ?_)) | ((with_reducible apply tagS); first | ((with_reducible apply tagD); first | refine qd1 ?_ | refine qd3 ?_) | ((with_reducible apply tagR); first | refine qr1 ?_ | refine qr3 ?_)) | ((with_reducible apply tagN); first | ((with_reducible apply tagD); first | refine qd2 ?_ | refine qd4 ?_) | ((with_reducible apply tagR); first | refine qr2 ?_ | refine qr4 ?_)) | ((with_reducible apply tagW); first | refine qw1 ?_ | refine qw2 ?_ | refine qw3 ?_ | refine qw4 ?_ | refine qw5 ?_ | refine qw6 (fun hb => ?_) (fun hb => ?_) | refine qw7 ?_ | refine qw8 ?_ | refine qw9 ?_ | refine qw0 ?_) | refine thenQ_n ?_ | refine thenQ_e ?_ | refine thenQ_r ?_ | refine blockQ_n ?_ | refine blockQ_r ?_ | refine blockQ_hit ?_ | refine qb4 ?_ | refine qe ?_ | refine loopQ_e ?_ | refine loopQ_r ?_
  all_goals exact ret_d rfl (by simp_all [sameIns])
theorem sameIns_iff (x y : Ins) : sameIns x y = true ↔ x = y := by
  cases x; cases y; simp [sameIns]
theorem C49 (l m : List Ins) (hl : Sm l) (hm : Sm m) (hl2 : ∀ x ∈ l, Sm x.args) (hm2 : ∀ x ∈ m, Sm x.args) : C Try.prog 49 [.d (.sl (inss l)), .d (.sl (inss m)), .fn 50 []] [] (dBool (decide (l.length = m.length) && (l.zip m).all fun p => sameIns p.1 p.2)) [] [] := by
  refine C_intro T_ok (rs := [.tmp 6]) Try.func49 rfl rfl rfl (Nat.le_of_ble_eq_true rfl) (Nat.le_of_ble_eq_true rfl) rfl ⟨rfl, rfl⟩ rfl fun cx hn => ?_
  have hn : cx.n = 32 := hn
  have Y := And.intro T3 (And.intro T23 (And.intro T38 (T60)))
  simp only [enumA, enumO, Nat.reduceAdd]
  repeat' first | refine R_nil ?_ | ((with_reducible apply tagG); first | refine qg1 ?_ | refine qg2 ?_ | refine qg3 ?_ | refine qg4 ?_ | refine qg5 ?_ | refine qg6 (fun hb => ?_) (fun hb => ?_)) | ((with_reducible apply tagS); first | ((with_reducible apply tagD); first | refine qd1 ?_ | refine qd3 ?_) | ((with_reducible apply tagR); first | refine qr1 ?_ | refine qr3 ?_)) | ((with_reducible apply tagN); first | ((with_reducible apply tagD); first | refine qd2 ?_ | refine qd4 ?_) | ((with_reducible apply tagR); first | refine qr2 ?_ | refine qr4 ?_)) | ((with_reducible apply tagW); first | refine qw1 ?_ | refine qw2 ?_ | refine qw3 ?_ | refine qw4 ?_ | refine qw5 ?_ | refine qw6 (fun hb => ?_) (fun hb => ?_) | refine qw7 ?_ | refine qw8 ?_ | refine qw9 ?_ | refine qw0 ?_) | refine thenQ_n ?_ | refine thenQ_e ?_ | refine thenQ_r ?_ | refine blockQ_n ?_ | refine blockQ_r ?_ | refine blockQ_hit ?_ | refine qb4 ?_ | refine qe ?_ | refine loopQ_e ?_ | refine loopQ_r ?_
  · refine ret_d rfl ?_
    have : l.length ≠ m.length := by intro e; simp [e] at hb
    simp [this]
  · have hlen : l.length = m.length := by simp at hb; omega
    refine W_loopQ (fun i : Nat => [(17, dInt i), (16, dInt l.length), (15, .d (.sl (inss l))), (0, .d (.sl (inss l))), (1, .d (.sl (inss m))), (2, .fn 50 [])]) (fun _ => []) (fun i => l.length - i) (fun i => i ≤ l.length ∧ ((l.zip m).all fun p => sameIns p.1 p.2) = (((l.drop i).zip (m.drop i)).all fun p => sameIns p.1 p.2)) 0 ⟨by omega, rfl⟩ qs fun i ⟨hi, he⟩ => ?_
    by_cases h : i < l.length
    · obtain ⟨x, hx⟩ := get_ex h
      obtain ⟨y, hy⟩ := get_ex (hlen ▸ h : i < m.length)
      have h1 : (i:Int) < l.length := by omega
      have h2 : (i:Int) < m.length := by omega
      have E := And.intro @h1 (And.intro @h2 (And.intro (inss_get hx) ((inss_get hy))))
      repeat' first | refine R_nil ?_ | ((with_reducible apply tagG); first | refine qg1 ?_ | refine qg2 ?_ | refine qg3 ?_ | refine qg4 ?_ | refine qg5 ?_ | refine qg6 (fun hb => ?_) (fun hb => ?_)) | ((with_reducible apply tagK); first | ((with_reducible apply tagD); first | refine qd5 (C50 x y (hl2 x (List.mem_of_getElem? hx)) (hm2 y (List.mem_of_getElem? hy))) ?_) | ((with_reducible apply tagR); first | refine qr5 (C50 x y (hl2 x (List.mem_of_getElem? hx)) (hm2 y (List.mem_of_getElem? hy))) ?_)) | ((with_reducible apply tagS); first | ((with_reducible apply tagD); first | refine qd1 ?_ | refine qd3 ?_) | ((with_reducible apply tagR); first | refine qr1 ?_ | refine qr3 ?_)) | ((with_reducible apply tagN); first | ((with_reducible apply tagD); first | refine qd2 ?_ | refine qd4 ?_) | ((with_reducible apply tagR); first | refine qr2 ?_ | refine qr4 ?_)) | ((with_reducible apply tagW); first | refine qw1 ?_ | refine qw2 ?_ | refine qw3 ?_ | refine qw4 ?_ | refine qw5 ?_ | refine qw6 (fun hb => ?_) (fun hb => ?_) | refine qw7 ?_ | refine qw8 ?_ | refine qw9 ?_ | refine qw0 ?_) | refine thenQ_n ?_ | refine thenQ_e ?_ | refine thenQ_r ?_ | refine blockQ_n ?_ | refine blockQ_r ?_ | refine blockQ_hit ?_ | refine qb4 ?_ | refine qe ?_ | refine loopQ_e ?_ | refine loopQ_r ?_
      all_goals clear E
      · refine ret_d rfl ?_
        rw [he, drop_some hx, drop_some hy]; simp_all
      · refine loopQ_n (i + 1) (by omega) ⟨by omega, ?_⟩ qs
        rw [he, drop_some hx, drop_some hy]; simp_all
    · have h1 : ¬ (i:Int) < l.length := by omega
      have E := @h1
      repeat' first | refine R_nil ?_ | ((with_reducible apply tagG); first | refine qg1 ?_ | refine qg2 ?_ | refine qg3 ?_ | refine qg4 ?_ | refine qg5 ?_ | refine qg6 (fun hb => ?_) (fun hb => ?_)) | ((with_reducible apply tagS); first | ((with_reducible apply tagD); first | refine qd1 ?_ | refine qd3 ?_) | ((with_reducible apply tagR); first | refine qr1 ?_ | refine qr3 ?_)) | ((with_reducible apply tagN); first | ((with_reducible apply tagD); first | refine qd2 ?_ | refine qd4 ?_) | ((with_reducible apply tagR); first | refine qr2 ?_ | refine qr4 ?_)) | ((with_reducible apply tagW); first | refine qw1 ?_ | refine qw2 ?_ | refine qw3 ?_ | refine qw4 ?_ | refine qw5 ?_ | refine qw6 (fun hb => ?_) (fun hb => ?_) | refine qw7 ?_ | refine qw8 ?_ | refine qw9 ?_ | refine qw0 ?_) | refine thenQ_n ?_ | refine thenQ_e ?_ | refine thenQ_r ?_ | refine blockQ_n ?_ | refine blockQ_r ?_ | refine blockQ_hit ?_ | refine qb4 ?_ | refine qe ?_ | refine loopQ_e ?_ | refine loopQ_r ?_
      all_goals clear E
      refine ret_d rfl ?_
      rw [he, drop_none h]; simp [hlen]
def endAt (ins : List Ins) : Nat → Int → Int
  | 0, pc => pc
  | n + 1, pc => if pc < 0 || pc ≥ ins.length then pc else match ins[pc.toNat]? with
    | some i => if i.op = 3 then endAt ins n i.a else pc
    | none => pc
theorem C65 (f : Fn) (pc : Int) (hf : Sm f.ins) : C Try.prog 65 [f.av, dInt pc] [] (dInt (endAt f.ins f.ins.length pc)) [] [] := by
  refine C_intro T_ok (rs := [.tmp 4]) Try.func65 rfl rfl rfl (Nat.le_of_ble_eq_true rfl) (Nat.le_of_ble_eq_true rfl) rfl ⟨rfl, rfl⟩ rfl fun cx hn => ?_
  have hn : cx.n = 37 := hn
  have Y := And.intro T3 (And.intro T9 (And.intro T23 (And.intro T38 (And.intro T40 (T60)))))
  simp only [enumA, enumO, Nat.reduceAdd]
  repeat' first | refine R_nil ?_ | ((with_reducible apply tagG); first | refine qg1 ?_ | refine qg2 ?_ | refine qg3 ?_ | refine qg4 ?_ | refine qg5 ?_ | refine qg6 (fun hb => ?_) (fun hb => ?_)) | ((with_reducible apply tagS); first | ((with_reducible apply tagD); first | refine qd1 ?_ | refine qd3 ?_) | ((with_reducible apply tagR); first | refine qr1 ?_ | refine qr3 ?_)) | ((with_reducible apply tagN); first | ((with_reducible apply tagD); first | refine qd2 ?_ | refine qd4 ?_) | ((with_reducible apply tagR); first | refine qr2 ?_ | refine qr4 ?_)) | ((with_reducible apply tagW); first | refine qw1 ?_ | refine qw2 ?_ | refine qw3 ?_ | refine qw4 ?_ | refine qw5 ?_ | refine qw6 (fun hb => ?_) (fun hb => ?_) | refine qw7 ?_ | refine qw8 ?_ | refine qw9 ?_ | refine qw0 ?_) | refine thenQ_n ?_ | refine thenQ_e ?_ | refine thenQ_r ?_ | refine blockQ_n ?_ | refine blockQ_r ?_ | refine blockQ_hit ?_ | refine qb4 ?_ | refine qe ?_ | refine loopQ_e ?_ | refine loopQ_r ?_
  refine W_loopQ (α := Nat × Int) (fun x => [(8, dInt x.1), (7, dInt f.ins.length), (1, dInt x.2), (2, .ptr 2 0 0)]) (fun _ => [(2, some (.box [dStr f.name, dInt f.params, dInt f.holds, dInt f.regs, .d (.sl (inss f.ins))]))]) (fun x => f.ins.length - x.1) (fun x => x.1 ≤ f.ins.length ∧ endAt f.ins f.ins.length pc = endAt f.ins (f.ins.length - x.1) x.2) (0, pc) ⟨by simp, rfl⟩ qs fun ⟨i, p⟩ ⟨hi, he⟩ => ?_
  dsimp only at hi he ⊢
  by_cases h : i < f.ins.length
  · have h1 : (i:Int) < f.ins.length := by omega
    obtain ⟨k, hk⟩ : ∃ k, f.ins.length - i = k + 1 := ⟨f.ins.length - i - 1, by omega⟩
    rw [hk] at he
    have hk' : f.ins.length - (i + 1) = k := by omega
    by_cases hp : 0 ≤ p ∧ p < f.ins.length
    · obtain ⟨x, hx⟩ := get_ex (show p.toNat < f.ins.length by omega)
      have h2 : ¬ p < 0 := by omega
      have h3 : ¬ (f.ins.length : Int) ≤ p := by omega
      have h4 : p < (f.ins.length : Int) := hp.2
      have E := And.intro @h1 (And.intro @h2 (And.intro @h3 (And.intro @h4 ((inss_get hx)))))
      repeat' first | refine R_nil ?_ | ((with_reducible apply tagG); first | refine qg1 ?_ | refine qg2 ?_ | refine qg3 ?_ | refine qg4 ?_ | refine qg5 ?_ | refine qg6 (fun hb => ?_) (fun hb => ?_)) | ((with_reducible apply tagS); first | ((with_reducible apply tagD); first | refine qd1 ?_ | refine qd3 ?_) | ((with_reducible apply tagR); first | refine qr1 ?_ | refine qr3 ?_)) | ((with_reducible apply tagN); first | ((with_reducible apply tagD); first | refine qd2 ?_ | refine qd4 ?_) | ((with_reducible apply tagR); first | refine qr2 ?_ | refine qr4 ?_)) | ((with_reducible apply tagW); first | refine qw1 ?_ | refine qw2 ?_ | refine qw3 ?_ | refine qw4 ?_ | refine qw5 ?_ | refine qw6 (fun hb => ?_) (fun hb => ?_) | refine qw7 ?_ | refine qw8 ?_ | refine qw9 ?_ | refine qw0 ?_) | refine thenQ_n ?_ | refine thenQ_e ?_ | refine thenQ_r ?_ | refine blockQ_n ?_ | refine blockQ_r ?_ | refine blockQ_hit ?_ | refine qb4 ?_ | refine qe ?_ | refine loopQ_e ?_ | refine loopQ_r ?_
      all_goals clear E
      · refine ret_d rfl ?_
        have h5 : ¬ x.op = 3 := by simpa using hb
        rw [he]; simp [endAt, h2, h3, hx, h5]
      · refine loopQ_n (i + 1, x.a) (by dsimp only; omega) ⟨by dsimp only; omega, ?_⟩ qs
        have h5 : x.op = 3 := by simpa using hb
        dsimp only
        rw [he, hk']; simp [endAt, h2, h3, hx, h5]
    · by_cases h2 : p < 0
      · have E := And.intro @h1 (@h2)
        repeat' first | refine R_nil ?_ | ((with_reducible apply tagG); first | refine qg1 ?_ | refine qg2 ?_ | refine qg3 ?_ | refine qg4 ?_ | refine qg5 ?_ | refine qg6 (fun hb => ?_) (fun hb => ?_)) | ((with_reducible apply tagS); first | ((with_reducible apply tagD); first | refine qd1 ?_ | refine qd3 ?_) | ((with_reducible apply tagR); first | refine qr1 ?_ | refine qr3 ?_)) | ((with_reducible apply tagN); first | ((with_reducible apply tagD); first | refine qd2 ?_ | refine qd4 ?_) | ((with_reducible apply tagR); first | refine qr2 ?_ | refine qr4 ?_)) | ((with_reducible apply tagW); first | refine qw1 ?_ | refine qw2 ?_ | refine qw3 ?_ | refine qw4 ?_ | refine qw5 ?_ | refine qw6 (fun hb => ?_) (fun hb => ?_) | refine qw7 ?_ | refine qw8 ?_ | refine qw9 ?_ | refine qw0 ?_) | refine thenQ_n ?_ | refine thenQ_e ?_ | refine thenQ_r ?_ | refine blockQ_n ?_ | refine blockQ_r ?_ | refine blockQ_hit ?_ | refine qb4 ?_ | refine qe ?_ | refine loopQ_e ?_ | refine loopQ_r ?_
        all_goals clear E
        refine ret_d rfl ?_
        rw [he]; simp [endAt, h2]
      · have h3 : (f.ins.length : Int) ≤ p := by omega
        have E := And.intro @h1 (And.intro @h2 (@h3))
        repeat' first | refine R_nil ?_ | ((with_reducible apply tagG); first | refine qg1 ?_ | refine qg2 ?_ | refine qg3 ?_ | refine qg4 ?_ | refine qg5 ?_ | refine qg6 (fun hb => ?_) (fun hb => ?_)) | ((with_reducible apply tagS); first | ((with_reducible apply tagD); first | refine qd1 ?_ | refine qd3 ?_) | ((with_reducible apply tagR); first | refine qr1 ?_ | refine qr3 ?_)) | ((with_reducible apply tagN); first | ((with_reducible apply tagD); first | refine qd2 ?_ | refine qd4 ?_) | ((with_reducible apply tagR); first | refine qr2 ?_ | refine qr4 ?_)) | ((with_reducible apply tagW); first | refine qw1 ?_ | refine qw2 ?_ | refine qw3 ?_ | refine qw4 ?_ | refine qw5 ?_ | refine qw6 (fun hb => ?_) (fun hb => ?_) | refine qw7 ?_ | refine qw8 ?_ | refine qw9 ?_ | refine qw0 ?_) | refine thenQ_n ?_ | refine thenQ_e ?_ | refine thenQ_r ?_ | refine blockQ_n ?_ | refine blockQ_r ?_ | refine blockQ_hit ?_ | refine qb4 ?_ | refine qe ?_ | refine loopQ_e ?_ | refine loopQ_r ?_
        all_goals clear E
        refine ret_d rfl ?_
        rw [he]; simp [endAt, h3]
  · have h1 : ¬ (i:Int) < f.ins.length := by omega
    have E := @h1
    repeat' first | refine R_nil ?_ | ((with_reducible apply tagG); first | refine qg1 ?_ | refine qg2 ?_ | refine qg3 ?_ | refine qg4 ?_ | refine qg5 ?_ | refine qg6 (fun hb => ?_) (fun hb => ?_)) | ((with_reducible apply tagS); first | ((with_reducible apply tagD); first | refine qd1 ?_ | refine qd3 ?_) | ((with_reducible apply tagR); first | refine qr1 ?_ | refine qr3 ?_)) | ((with_reducible apply tagN); first | ((with_reducible apply tagD); first | refine qd2 ?_ | refine qd4 ?_) | ((with_reducible apply tagR); first | refine qr2 ?_ | refine qr4 ?_)) | ((with_reducible apply tagW); first | refine qw1 ?_ | refine qw2 ?_ | refine qw3 ?_ | refine qw4 ?_ | refine qw5 ?_ | refine qw6 (fun hb => ?_) (fun hb => ?_) | refine qw7 ?_ | refine qw8 ?_ | refine qw9 ?_ | refine qw0 ?_) | refine thenQ_n ?_ | refine thenQ_e ?_ | refine thenQ_r ?_ | refine blockQ_n ?_ | refine blockQ_r ?_ | refine blockQ_hit ?_ | refine qb4 ?_ | refine qe ?_ | refine loopQ_e ?_ | refine loopQ_r ?_
    all_goals clear E
    refine ret_d rfl ?_
    rw [he, show f.ins.length - i = 0 by omega]; rfl
theorem C61 (h : Hint) (fn pc : Int) : C Try.prog 61 [h.av, .ptr 1000 0 0, .ptr 1001 0 0] [.box [dInt fn], .box [dInt pc]] (dBool (decide (h.fn = fn) && decide (h.pc = pc))) [.box [dInt fn], .box [dInt pc]] [] := by
  refine C_intro T_ok (rs := [.tmp 4]) Try.func61 rfl rfl rfl (Nat.le_of_ble_eq_true rfl) (Nat.le_of_ble_eq_true rfl) rfl ⟨rfl, rfl⟩ rfl fun cx hn => ?_
  have hn : cx.n = 15 := hn
  have Y := And.intro T3 (And.intro T9 (T48))
  simp only [enumA, enumO, Nat.reduceAdd]
  repeat' first | refine R_nil ?_ | ((with_reducible apply tagG); first | refine qg1 ?_ | refine qg2 ?_ | refine qg3 ?_ | refine qg4 ?_ | refine qg5 ?_ | refine qg6 (fun hb => ?_) (fun hb => ?_)) | ((with_reducible apply tagS); first | ((with_reducible apply tagD); first | refine qd1 ?_ | refine qd3 ?_) | ((with_reducible apply tagR); first | refine qr1 ?_ | refine qr3 ?_)) | ((with_reducible apply tagN); first | ((with_reducible apply tagD); first | refine qd2 ?_ | refine qd4 ?_) | ((with_reducible apply tagR); first | refine qr2 ?_ | refine qr4 ?_)) | ((with_reducible apply tagW); first | refine qw1 ?_ | refine qw2 ?_ | refine qw3 ?_ | refine qw4 ?_ | refine qw5 ?_ | refine qw6 (fun hb => ?_) (fun hb => ?_) | refine qw7 ?_ | refine qw8 ?_ | refine qw9 ?_ | refine qw0 ?_) | refine thenQ_n ?_ | refine thenQ_e ?_ | refine thenQ_r ?_ | refine blockQ_n ?_ | refine blockQ_r ?_ | refine blockQ_hit ?_ | refine qb4 ?_ | refine qe ?_ | refine loopQ_e ?_ | refine loopQ_r ?_
  all_goals exact ret_dM rfl (by simp_all) rfl rfl
theorem C60 (l : List Hint) (fn pc : Int) (hl : Sm l) : C Try.prog 60 [.d (.sl (hintsD l)), .fn 61 [(1000, 0, 0), (1001, 0, 0)]] [.box [dInt fn], .box [dInt pc]] (dInt (idx (fun h => decide (h.fn = fn) && decide (h.pc = pc)) 0 l)) [.box [dInt fn], .box [dInt pc]] [] := by
  refine C_intro T_ok (rs := [.tmp 4]) Try.func60 rfl rfl rfl (Nat.le_of_ble_eq_true rfl) (Nat.le_of_ble_eq_true rfl) rfl ⟨rfl, rfl⟩ rfl fun cx hn => ?_
  have hn : cx.n = 19 := hn
  have Y := And.intro T3 (And.intro T9 (And.intro T46 (T48)))
  simp only [enumA, enumO, Nat.reduceAdd]
  repeat' first | refine R_nil ?_ | ((with_reducible apply tagG); first | refine qg1 ?_ | refine qg2 ?_ | refine qg3 ?_ | refine qg4 ?_ | refine qg5 ?_ | refine qg6 (fun hb => ?_) (fun hb => ?_)) | ((with_reducible apply tagS); first | ((with_reducible apply tagD); first | refine qd1 ?_ | refine qd3 ?_) | ((with_reducible apply tagR); first | refine qr1 ?_ | refine qr3 ?_)) | ((with_reducible apply tagN); first | ((with_reducible apply tagD); first | refine qd2 ?_ | refine qd4 ?_) | ((with_reducible apply tagR); first | refine qr2 ?_ | refine qr4 ?_)) | ((with_reducible apply tagW); first | refine qw1 ?_ | refine qw2 ?_ | refine qw3 ?_ | refine qw4 ?_ | refine qw5 ?_ | refine qw6 (fun hb => ?_) (fun hb => ?_) | refine qw7 ?_ | refine qw8 ?_ | refine qw9 ?_ | refine qw0 ?_) | refine thenQ_n ?_ | refine thenQ_e ?_ | refine thenQ_r ?_ | refine blockQ_n ?_ | refine blockQ_r ?_ | refine blockQ_hit ?_ | refine qb4 ?_ | refine qe ?_ | refine loopQ_e ?_ | refine loopQ_r ?_
  refine W_loopQ (fun i : Nat => [(8, dInt i), (7, dInt l.length), (0, .d (.sl (hintsD l))), (1, .fn 61 [(1000, 0, 0), (1001, 0, 0)])]) (fun _ => [(1000, some (.box [dInt fn])), (1001, some (.box [dInt pc]))]) (fun i => l.length - i) (fun i => i ≤ l.length ∧ idx (fun h => decide (h.fn = fn) && decide (h.pc = pc)) 0 l = idx (fun h => decide (h.fn = fn) && decide (h.pc = pc)) i (l.drop i)) 0 ⟨by omega, rfl⟩ qs fun i ⟨hi, he⟩ => ?_
  by_cases h : i < l.length
  · obtain ⟨x, hx⟩ := get_ex h
    have h1 : (i:Int) < l.length := by omega
    have E := And.intro @h1 ((hintsD_get hx))
    repeat' first | refine R_nil ?_ | ((with_reducible apply tagG); first | refine qg1 ?_ | refine qg2 ?_ | refine qg3 ?_ | refine qg4 ?_ | refine qg5 ?_ | refine qg6 (fun hb => ?_) (fun hb => ?_)) | ((with_reducible apply tagK); first | ((with_reducible apply tagD); first | refine qd7 [1000, 1001] (C61 x fn pc) ?_ | refine qd6 [1000, 1001] (C61 x fn pc) ?_) | ((with_reducible apply tagR); first | refine qr7 [1000, 1001] (C61 x fn pc) ?_ | refine qr6 [1000, 1001] (C61 x fn pc) ?_)) | ((with_reducible apply tagS); first | ((with_reducible apply tagD); first | refine qd1 ?_ | refine qd3 ?_) | ((with_reducible apply tagR); first | refine qr1 ?_ | refine qr3 ?_)) | ((with_reducible apply tagN); first | ((with_reducible apply tagD); first | refine qd2 ?_ | refine qd4 ?_) | ((with_reducible apply tagR); first | refine qr2 ?_ | refine qr4 ?_)) | ((with_reducible apply tagW); first | refine qw1 ?_ | refine qw2 ?_ | refine qw3 ?_ | refine qw4 ?_ | refine qw5 ?_ | refine qw6 (fun hb => ?_) (fun hb => ?_) | refine qw7 ?_ | refine qw8 ?_ | refine qw9 ?_ | refine qw0 ?_) | refine thenQ_n ?_ | refine thenQ_e ?_ | refine thenQ_r ?_ | refine blockQ_n ?_ | refine blockQ_r ?_ | refine blockQ_hit ?_ | refine qb4 ?_ | refine qe ?_ | refine loopQ_e ?_ | refine loopQ_r ?_
    all_goals clear E
    · refine ret_dM rfl ?_ rfl rfl
      rw [he, drop_some hx]; simp_all [idx]
    · refine loopQ_n (i + 1) (by omega) ⟨by omega, ?_⟩ qs
      rw [he, drop_some hx]; simp_all [idx]
  · have h1 : ¬ (i:Int) < l.length := by omega
    have E := @h1
    repeat' first | refine R_nil ?_ | ((with_reducible apply tagG); first | refine qg1 ?_ | refine qg2 ?_ | refine qg3 ?_ | refine qg4 ?_ | refine qg5 ?_ | refine qg6 (fun hb => ?_) (fun hb => ?_)) | ((with_reducible apply tagS); first | ((with_reducible apply tagD); first | refine qd1 ?_ | refine qd3 ?_) | ((with_reducible apply tagR); first | refine qr1 ?_ | refine qr3 ?_)) | ((with_reducible apply tagN); first | ((with_reducible apply tagD); first | refine qd2 ?_ | refine qd4 ?_) | ((with_reducible apply tagR); first | refine qr2 ?_ | refine qr4 ?_)) | ((with_reducible apply tagW); first | refine qw1 ?_ | refine qw2 ?_ | refine qw3 ?_ | refine qw4 ?_ | refine qw5 ?_ | refine qw6 (fun hb => ?_) (fun hb => ?_) | refine qw7 ?_ | refine qw8 ?_ | refine qw9 ?_ | refine qw0 ?_) | refine thenQ_n ?_ | refine thenQ_e ?_ | refine thenQ_r ?_ | refine blockQ_n ?_ | refine blockQ_r ?_ | refine blockQ_hit ?_ | refine qb4 ?_ | refine qe ?_ | refine loopQ_e ?_ | refine loopQ_r ?_
    all_goals clear E
    refine ret_dM rfl ?_ rfl rfl
    rw [he, drop_none h]; rfl
end Go.Pw
