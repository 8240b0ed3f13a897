/- Functions of the law: jumps that lead round. -/
import Derived.Test.YtppebcfhhoggiaaQF3
set_option linter.unusedVariables false
set_option linter.unusedSimpArgs false
namespace Go.Pw
open Go Go.Proofs
attribute [local irreducible] runL W endD thenQ blockQ loopQ
set_option maxRecDepth 8000
set_option maxHeartbeats 2000000
theorem C17 (f : Fn) (hs : Sm f.ins) (hin : inside f.ins) : C Try.prog 17 [f.av] [] (dBool (roundF f.ins)) [] [] := by
  refine C_intro T_ok (rs := [.tmp 2]) Try.func17 rfl rfl rfl (Nat.le_of_ble_eq_true rfl) (Nat.le_of_ble_eq_true rfl) rfl ⟨rfl, rfl⟩ rfl fun cx hn => ?_
  have hn : cx.n = 34 := hn
  have Y := And.intro T3 (And.intro T9 (And.intro T23 (And.intro T38 (And.intro T40 (T60)))))
  simp only [enumA, enumO, Nat.reduceAdd]
  repeat' first | refine R_nil ?_ | ((with_reducible apply tagG); first | refine qg1 ?_ | refine qg2 ?_ | refine qg3 ?_ | refine qg4 ?_ | refine qg5 ?_ | refine qg6 (fun hb => ?_) (fun hb => ?_)) | ((with_reducible apply tagS); first | ((with_reducible apply tagD); first | refine qd1 ?_ | refine qd3 ?_) | ((with_reducible apply tagR); first | refine qr1 ?_ | refine qr3 ?_)) | ((with_reducible apply tagN); first | ((with_reducible apply tagD); first | refine qd2 ?_ | refine qd4 ?_) | ((with_reducible apply tagR); first | refine qr2 ?_ | refine qr4 ?_)) | ((with_reducible apply tagW); first | refine qw1 ?_ | refine qw2 ?_ | refine qw3 ?_ | refine qw4 ?_ | refine qw5 ?_ | refine qw6 (fun hb => ?_) (fun hb => ?_) | refine qw7 ?_ | refine qw8 ?_ | refine qw9 ?_ | refine qw0 ?_) | refine thenQ_n ?_ | refine thenQ_e ?_ | refine thenQ_r ?_ | refine blockQ_n ?_ | refine blockQ_r ?_ | refine blockQ_hit ?_ | refine qb4 ?_ | refine qe ?_ | refine loopQ_e ?_ | refine loopQ_r ?_
  refine W_loopQ (fun i : Nat => [(9, dInt i), (8, dInt f.ins.length), (1, .ptr 1 0 0)]) (fun _ => [(1, some (.box f.cells))]) (fun i => f.ins.length - i) (fun i => i ≤ f.ins.length ∧ ∀ j, j < i → jumps f.ins (f.ins.length + 1) j = false) 0 ⟨by omega, fun j hj => by omega⟩ qs fun i ⟨hi, he⟩ => ?_
  by_cases h : i < f.ins.length
  · have h1 : (i:Int) < f.ins.length := by omega
    have E := @h1
    repeat' first | refine R_nil ?_ | ((with_reducible apply tagG); first | refine qg1 ?_ | refine qg2 ?_ | refine qg3 ?_ | refine qg4 ?_ | refine qg5 ?_ | refine qg6 (fun hb => ?_) (fun hb => ?_)) | ((with_reducible apply tagS); first | ((with_reducible apply tagD); first | refine qd1 ?_ | refine qd3 ?_) | ((with_reducible apply tagR); first | refine qr1 ?_ | refine qr3 ?_)) | ((with_reducible apply tagN); first | ((with_reducible apply tagD); first | refine qd2 ?_ | refine qd4 ?_) | ((with_reducible apply tagR); first | refine qr2 ?_ | refine qr4 ?_)) | ((with_reducible apply tagW); first | refine qw1 ?_ | refine qw2 ?_ | refine qw3 ?_ | refine qw4 ?_ | refine qw5 ?_ | refine qw6 (fun hb => ?_) (fun hb => ?_) | refine qw7 ?_ | refine qw8 ?_ | refine qw9 ?_ | refine qw0 ?_) | refine thenQ_n ?_ | refine thenQ_e ?_ | refine thenQ_r ?_ | refine blockQ_n ?_ | refine blockQ_r ?_ | refine blockQ_hit ?_ | refine qb4 ?_ | refine qe ?_ | refine loopQ_e ?_ | refine loopQ_r ?_
    all_goals clear E
    refine W_loopQ (α := Nat × Int) (fun x => [(4, dInt x.1), (5, dInt x.2), (9, dInt i), (8, dInt f.ins.length), (1, .ptr 1 0 0)]) (fun _ => [(1, some (.box f.cells))]) (fun x => f.ins.length + 1 - x.1) (fun x => x.1 ≤ f.ins.length ∧ 0 ≤ x.2 ∧ x.2 < f.ins.length ∧ jumps f.ins (f.ins.length + 1) i = jumps f.ins (f.ins.length + 1 - x.1) x.2) (0, (i : Int)) ⟨by simp, by simp, by simpa using h1, rfl⟩ qs fun ⟨n, p⟩ ⟨g1, g2, g3, g4⟩ => ?_
    dsimp only at g1 g2 g3 g4 ⊢
    obtain ⟨x, hx⟩ := get_ex (show p.toNat < f.ins.length by omega)
    obtain ⟨m, hm⟩ : ∃ m, f.ins.length + 1 - n = m + 1 := ⟨f.ins.length - n, by omega⟩
    rw [hm] at g4
    have gj : jumps f.ins (m + 1) p = (decide (x.op = 3) && jumps f.ins m x.a) := by simp [jumps, hx]
    by_cases h3 : x.op = 3
    · have e3 : decide (x.op = 3) = true := by simp [h3]
      obtain ⟨a1, a2⟩ := hin x (List.mem_of_getElem? hx) h3
      by_cases hn' : f.ins.length < n + 1
      · have e4 : (f.ins.length : Int) < (n : Int) + 1 := by omega
        have E := And.intro @e3 (And.intro @e4 ((inss_get hx)))
        repeat' first | refine R_nil ?_ | ((with_reducible apply tagG); first | refine qg1 ?_ | refine qg2 ?_ | refine qg3 ?_ | refine qg4 ?_ | refine qg5 ?_ | refine qg6 (fun hb => ?_) (fun hb => ?_)) | ((with_reducible apply tagS); first | ((with_reducible apply tagD); first | refine qd1 ?_ | refine qd3 ?_) | ((with_reducible apply tagR); first | refine qr1 ?_ | refine qr3 ?_)) | ((with_reducible apply tagN); first | ((with_reducible apply tagD); first | refine qd2 ?_ | refine qd4 ?_) | ((with_reducible apply tagR); first | refine qr2 ?_ | refine qr4 ?_)) | ((with_reducible apply tagW); first | refine qw1 ?_ | refine qw2 ?_ | refine qw3 ?_ | refine qw4 ?_ | refine qw5 ?_ | refine qw6 (fun hb => ?_) (fun hb => ?_) | refine qw7 ?_ | refine qw8 ?_ | refine qw9 ?_ | refine qw0 ?_) | refine thenQ_n ?_ | refine thenQ_e ?_ | refine thenQ_r ?_ | refine blockQ_n ?_ | refine blockQ_r ?_ | refine blockQ_hit ?_ | refine qb4 ?_ | refine qe ?_ | refine loopQ_e ?_ | refine loopQ_r ?_
        all_goals clear E
        refine ret_d rfl ?_
        have hm0 : m = 0 := by omega
        have : jumps f.ins (f.ins.length + 1) i = true := by rw [g4, gj, e3, hm0]; rfl
        have : roundF f.ins = true := List.any_eq_true.2 ⟨i, List.mem_range.2 h, this⟩
        rw [this]
      · have e4 : ¬ (f.ins.length : Int) < (n : Int) + 1 := by omega
        have E := And.intro @e3 (And.intro @e4 ((inss_get hx)))
        repeat' first | refine R_nil ?_ | ((with_reducible apply tagG); first | refine qg1 ?_ | refine qg2 ?_ | refine qg3 ?_ | refine qg4 ?_ | refine qg5 ?_ | refine qg6 (fun hb => ?_) (fun hb => ?_)) | ((with_reducible apply tagS); first | ((with_reducible apply tagD); first | refine qd1 ?_ | refine qd3 ?_) | ((with_reducible apply tagR); first | refine qr1 ?_ | refine qr3 ?_)) | ((with_reducible apply tagN); first | ((with_reducible apply tagD); first | refine qd2 ?_ | refine qd4 ?_) | ((with_reducible apply tagR); first | refine qr2 ?_ | refine qr4 ?_)) | ((with_reducible apply tagW); first | refine qw1 ?_ | refine qw2 ?_ | refine qw3 ?_ | refine qw4 ?_ | refine qw5 ?_ | refine qw6 (fun hb => ?_) (fun hb => ?_) | refine qw7 ?_ | refine qw8 ?_ | refine qw9 ?_ | refine qw0 ?_) | refine thenQ_n ?_ | refine thenQ_e ?_ | refine thenQ_r ?_ | refine blockQ_n ?_ | refine blockQ_r ?_ | refine blockQ_hit ?_ | refine qb4 ?_ | refine qe ?_ | refine loopQ_e ?_ | refine loopQ_r ?_
        all_goals clear E
        refine loopQ_n (n + 1, x.a) (by dsimp only; omega) ⟨by dsimp only; omega, a1, a2, ?_⟩ qs
        dsimp only
        rw [g4, gj, e3, show f.ins.length + 1 - (n + 1) = m by omega]; rfl
    · have e3 : decide (x.op = 3) = false := by simp [h3]
      have E := And.intro @e3 ((inss_get hx))
      repeat' first | refine R_nil ?_ | ((with_reducible apply tagG); first | refine qg1 ?_ | refine qg2 ?_ | refine qg3 ?_ | refine qg4 ?_ | refine qg5 ?_ | refine qg6 (fun hb => ?_) (fun hb => ?_)) | ((with_reducible apply tagS); first | ((with_reducible apply tagD); first | refine qd1 ?_ | refine qd3 ?_) | ((with_reducible apply tagR); first | refine qr1 ?_ | refine qr3 ?_)) | ((with_reducible apply tagN); first | ((with_reducible apply tagD); first | refine qd2 ?_ | refine qd4 ?_) | ((with_reducible apply tagR); first | refine qr2 ?_ | refine qr4 ?_)) | ((with_reducible apply tagW); first | refine qw1 ?_ | refine qw2 ?_ | refine qw3 ?_ | refine qw4 ?_ | refine qw5 ?_ | refine qw6 (fun hb => ?_) (fun hb => ?_) | refine qw7 ?_ | refine qw8 ?_ | refine qw9 ?_ | refine qw0 ?_) | refine thenQ_n ?_ | refine thenQ_e ?_ | refine thenQ_r ?_ | refine blockQ_n ?_ | refine blockQ_r ?_ | refine blockQ_hit ?_ | refine qb4 ?_ | refine qe ?_ | refine loopQ_e ?_ | refine loopQ_r ?_
      all_goals clear E
      refine loopQ_n (i + 1) (by omega) ⟨by omega, fun j hj => ?_⟩ qs
      by_cases hji : j = i
      · subst hji; rw [g4, gj, e3]; rfl
      · exact he j (by omega)
  · have h1 : ¬ (i:Int) < f.ins.length := by omega
    have E := @h1
    repeat' first | refine R_nil ?_ | ((with_reducible apply tagG); first | refine qg1 ?_ | refine qg2 ?_ | refine qg3 ?_ | refine qg4 ?_ | refine qg5 ?_ | refine qg6 (fun hb => ?_) (fun hb => ?_)) | ((with_reducible apply tagS); first | ((with_reducible apply tagD); first | refine qd1 ?_ | refine qd3 ?_) | ((with_reducible apply tagR); first | refine qr1 ?_ | refine qr3 ?_)) | ((with_reducible apply tagN); first | ((with_reducible apply tagD); first | refine qd2 ?_ | refine qd4 ?_) | ((with_reducible apply tagR); first | refine qr2 ?_ | refine qr4 ?_)) | ((with_reducible apply tagW); first | refine qw1 ?_ | refine qw2 ?_ | refine qw3 ?_ | refine qw4 ?_ | refine qw5 ?_ | refine qw6 (fun hb => ?_) (fun hb => ?_) | refine qw7 ?_ | refine qw8 ?_ | refine qw9 ?_ | refine qw0 ?_) | refine thenQ_n ?_ | refine thenQ_e ?_ | refine thenQ_r ?_ | refine blockQ_n ?_ | refine blockQ_r ?_ | refine blockQ_hit ?_ | refine qb4 ?_ | refine qe ?_ | refine loopQ_e ?_ | refine loopQ_r ?_
    all_goals clear E
    refine ret_d rfl ?_
    have : roundF f.ins = false := List.any_eq_false.2 fun j hj => by
      have := List.mem_range.1 hj
      simp [he j (by omega)]
    rw [this]
end Go.Pw
