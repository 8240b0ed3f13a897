/- Functions of the reference: what is wrong with a code. -/
import Derived.Test.YtppebcfhhoggiaaQF33
import Derived.Test.YtppebcfhhoggiaaQF21
set_option linter.unusedVariables false
set_option linter.unusedSimpArgs false
namespace Go.Pw
open Go Go.Proofs
attribute [local irreducible] runL W endD thenQ blockQ loopQ
set_option maxRecDepth 8000
set_option maxHeartbeats 16000000
theorem C9 (c : Cod) (hc : c.Ok) : C Try.prog 9 [c.av] [] (dInt (codErr c)) [] [] := by
  obtain ⟨k1, k2, k3, k4, k5, k6, k7, k8, k9, k10⟩ := hc
  by_cases hl : codLarge c = true
  · have e : codErr c = 2 := by unfold codErr; rw [if_pos hl]
    rw [e]
    simp only [codLarge, Bool.or_eq_true, decide_eq_true_eq] at hl
    refine C_intro T_ok (rs := [.tmp 2]) Try.func9 rfl rfl rfl (Nat.le_of_ble_eq_true rfl) (Nat.le_of_ble_eq_true rfl) rfl ⟨rfl, rfl⟩ rfl fun cx hn => ?_
    have hn : cx.n = 184 := hn
    have Y := And.intro T3 (And.intro T4 (And.intro T9 (And.intro T22 (And.intro T23 (And.intro T24 (And.intro T25 (And.intro T26 (And.intro T27 (And.intro T28 (And.intro T30 (And.intro T38 (And.intro T40 (And.intro T60 (And.intro T61 (And.intro T63 (And.intro T67 (And.intro T75 (T77))))))))))))))))))
    simp only [enumA, enumO, Nat.reduceAdd]
    by_cases h1 : 1000 < c.funs.length
    · have h1' : (1000:Int) < c.funs.length := by omega
      have E := @h1'
      repeat' first | refine R_nil ?_ | ((with_reducible apply tagG); first | refine qg1 ?_ | refine qg2 ?_ | refine qg3 ?_ | refine qg4 ?_ | refine qg5 ?_ | refine qg6 (fun hb => ?_) (fun hb => ?_)) | ((with_reducible apply tagS); first | ((with_reducible apply tagD); first | refine qd1 ?_ | refine qd3 ?_) | ((with_reducible apply tagR); first | refine qr1 ?_ | refine qr3 ?_)) | ((with_reducible apply tagN); first | ((with_reducible apply tagD); first | refine qd2 ?_ | refine qd4 ?_) | ((with_reducible apply tagR); first | refine qr2 ?_ | refine qr4 ?_)) | ((with_reducible apply tagW); first | refine qw1 ?_ | refine qw2 ?_ | refine qw3 ?_ | refine qw4 ?_ | refine qw5 ?_ | refine qw6 (fun hb => ?_) (fun hb => ?_) | refine qw7 ?_ | refine qw8 ?_ | refine qw9 ?_ | refine qw0 ?_) | refine thenQ_n ?_ | refine thenQ_e ?_ | refine thenQ_r ?_ | refine blockQ_n ?_ | refine blockQ_r ?_ | refine blockQ_hit ?_ | refine qb4 ?_ | refine qe ?_ | refine loopQ_e ?_ | refine loopQ_r ?_
      all_goals clear E
      exact ret_d rfl rfl
    have h1' : ¬ (1000:Int) < c.funs.length := by omega
    by_cases h2 : 4000 < c.texts.length
    · have h2' : (4000:Int) < c.texts.length := by omega
      have E := And.intro @h1' (@h2')
      repeat' first | refine R_nil ?_ | ((with_reducible apply tagG); first | refine qg1 ?_ | refine qg2 ?_ | refine qg3 ?_ | refine qg4 ?_ | refine qg5 ?_ | refine qg6 (fun hb => ?_) (fun hb => ?_)) | ((with_reducible apply tagS); first | ((with_reducible apply tagD); first | refine qd1 ?_ | refine qd3 ?_) | ((with_reducible apply tagR); first | refine qr1 ?_ | refine qr3 ?_)) | ((with_reducible apply tagN); first | ((with_reducible apply tagD); first | refine qd2 ?_ | refine qd4 ?_) | ((with_reducible apply tagR); first | refine qr2 ?_ | refine qr4 ?_)) | ((with_reducible apply tagW); first | refine qw1 ?_ | refine qw2 ?_ | refine qw3 ?_ | refine qw4 ?_ | refine qw5 ?_ | refine qw6 (fun hb => ?_) (fun hb => ?_) | refine qw7 ?_ | refine qw8 ?_ | refine qw9 ?_ | refine qw0 ?_) | refine thenQ_n ?_ | refine thenQ_e ?_ | refine thenQ_r ?_ | refine blockQ_n ?_ | refine blockQ_r ?_ | refine blockQ_hit ?_ | refine qb4 ?_ | refine qe ?_ | refine loopQ_e ?_ | refine loopQ_r ?_
      all_goals clear E
      exact ret_d rfl rfl
    have h2' : ¬ (4000:Int) < c.texts.length := by omega
    by_cases h3 : 4000 < c.nums.length
    · have h3' : (4000:Int) < c.nums.length := by omega
      have E := And.intro @h1' (And.intro @h2' (@h3'))
      repeat' first | refine R_nil ?_ | ((with_reducible apply tagG); first | refine qg1 ?_ | refine qg2 ?_ | refine qg3 ?_ | refine qg4 ?_ | refine qg5 ?_ | refine qg6 (fun hb => ?_) (fun hb => ?_)) | ((with_reducible apply tagS); first | ((with_reducible apply tagD); first | refine qd1 ?_ | refine qd3 ?_) | ((with_reducible apply tagR); first | refine qr1 ?_ | refine qr3 ?_)) | ((with_reducible apply tagN); first | ((with_reducible apply tagD); first | refine qd2 ?_ | refine qd4 ?_) | ((with_reducible apply tagR); first | refine qr2 ?_ | refine qr4 ?_)) | ((with_reducible apply tagW); first | refine qw1 ?_ | refine qw2 ?_ | refine qw3 ?_ | refine qw4 ?_ | refine qw5 ?_ | refine qw6 (fun hb => ?_) (fun hb => ?_) | refine qw7 ?_ | refine qw8 ?_ | refine qw9 ?_ | refine qw0 ?_) | refine thenQ_n ?_ | refine thenQ_e ?_ | refine thenQ_r ?_ | refine blockQ_n ?_ | refine blockQ_r ?_ | refine blockQ_hit ?_ | refine qb4 ?_ | refine qe ?_ | refine loopQ_e ?_ | refine loopQ_r ?_
      all_goals clear E
      exact ret_d rfl rfl
    have h3' : ¬ (4000:Int) < c.nums.length := by omega
    have h4 : (2000:Int) < c.pats.length := by omega
    have E := And.intro @h1' (And.intro @h2' (And.intro @h3' (@h4)))
    repeat' first | refine R_nil ?_ | ((with_reducible apply tagG); first | refine qg1 ?_ | refine qg2 ?_ | refine qg3 ?_ | refine qg4 ?_ | refine qg5 ?_ | refine qg6 (fun hb => ?_) (fun hb => ?_)) | ((with_reducible apply tagS); first | ((with_reducible apply tagD); first | refine qd1 ?_ | refine qd3 ?_) | ((with_reducible apply tagR); first | refine qr1 ?_ | refine qr3 ?_)) | ((with_reducible apply tagN); first | ((with_reducible apply tagD); first | refine qd2 ?_ | refine qd4 ?_) | ((with_reducible apply tagR); first | refine qr2 ?_ | refine qr4 ?_)) | ((with_reducible apply tagW); first | refine qw1 ?_ | refine qw2 ?_ | refine qw3 ?_ | refine qw4 ?_ | refine qw5 ?_ | refine qw6 (fun hb => ?_) (fun hb => ?_) | refine qw7 ?_ | refine qw8 ?_ | refine qw9 ?_ | refine qw0 ?_) | refine thenQ_n ?_ | refine thenQ_e ?_ | refine thenQ_r ?_ | refine blockQ_n ?_ | refine blockQ_r ?_ | refine blockQ_hit ?_ | refine qb4 ?_ | refine qe ?_ | refine loopQ_e ?_ | refine loopQ_r ?_
    all_goals clear E
    exact ret_d rfl rfl
  have hl' : codLarge c = false := by simpa using hl
  simp only [codLarge, Bool.or_eq_false_iff, decide_eq_false_iff_not] at hl'
  obtain ⟨⟨⟨h1, h2⟩, h3⟩, h4⟩ := hl'
  have h1' : ¬ (1000:Int) < c.funs.length := by omega
  have h2' : ¬ (4000:Int) < c.texts.length := by omega
  have h3' : ¬ (4000:Int) < c.nums.length := by omega
  have h4' : ¬ (2000:Int) < c.pats.length := by omega
  have b1 : c.actors.all (actGood c) = false → codErr c = 3 := fun h => by unfold codErr; rw [if_neg hl, h]; rfl
  have b2 : c.impls.all (implGood c) = false → codErr c = 3 := fun h => by unfold codErr; rw [if_neg hl, h]; simp
  have b3 : (c.makers.all fun m => !decide (m.args < 0)) = false → codErr c = 3 := fun h => by unfold codErr; rw [if_neg hl, h]; simp
  refine C_intro T_ok (rs := [.tmp 2]) Try.func9 rfl rfl rfl (Nat.le_of_ble_eq_true rfl) (Nat.le_of_ble_eq_true rfl) rfl ⟨rfl, rfl⟩ rfl fun cx hn => ?_
  have hn : cx.n = 184 := hn
  have Y := And.intro T3 (And.intro T4 (And.intro T9 (And.intro T22 (And.intro T23 (And.intro T24 (And.intro T25 (And.intro T26 (And.intro T27 (And.intro T28 (And.intro T30 (And.intro T38 (And.intro T40 (And.intro T60 (And.intro T61 (And.intro T63 (And.intro T67 (And.intro T75 (T77))))))))))))))))))
  simp only [enumA, enumO, Nat.reduceAdd]
  have E := And.intro @h1' (And.intro @h2' (And.intro @h3' (@h4')))
  repeat' first | refine R_nil ?_ | ((with_reducible apply tagG); first | refine qg1 ?_ | refine qg2 ?_ | refine qg3 ?_ | refine qg4 ?_ | refine qg5 ?_ | refine qg6 (fun hb => ?_) (fun hb => ?_)) | ((with_reducible apply tagS); first | ((with_reducible apply tagD); first | refine qd1 ?_ | refine qd3 ?_) | ((with_reducible apply tagR); first | refine qr1 ?_ | refine qr3 ?_)) | ((with_reducible apply tagN); first | ((with_reducible apply tagD); first | refine qd2 ?_ | refine qd4 ?_) | ((with_reducible apply tagR); first | refine qr2 ?_ | refine qr4 ?_)) | ((with_reducible apply tagW); first | refine qw1 ?_ | refine qw2 ?_ | refine qw3 ?_ | refine qw4 ?_ | refine qw5 ?_ | refine qw6 (fun hb => ?_) (fun hb => ?_) | refine qw7 ?_ | refine qw8 ?_ | refine qw9 ?_ | refine qw0 ?_) | refine thenQ_n ?_ | refine thenQ_e ?_ | refine thenQ_r ?_ | refine blockQ_n ?_ | refine blockQ_r ?_ | refine blockQ_hit ?_ | refine qb4 ?_ | refine qe ?_ | refine loopQ_e ?_ | refine loopQ_r ?_
  all_goals clear E
  refine W_loopQ (fun j : Nat => [(39, dInt j), (38, dInt c.actors.length), (37, .d (.sl (actrs c.actors))), (1, .ptr 1 0 0)]) (fun _ => [(1, some (.box c.cells))]) (fun j => c.actors.length - j) (fun j => j ≤ c.actors.length ∧ (c.actors.take j).all (actGood c) = true) 0 ⟨by omega, rfl⟩ qs fun j ⟨hj, hj2⟩ => ?_
  by_cases hjl : j < c.actors.length
  · obtain ⟨x, hx⟩ := get_ex hjl
    have hj1 : (j:Int) < c.actors.length := by omega
    cases hin : wi x.fn c.funs.length with
    | false =>
      have hb := b1 (all_badG hx (by simp [actGood, hin]))
      rw [hb]
      have hin' : (decide (0 ≤ x.fn) && decide (x.fn < (c.funs.length : Int))) = false := hin
      have E := And.intro @hj1 (And.intro (actrs_get hx) (@hin'))
      repeat' first | refine R_nil ?_ | ((with_reducible apply tagG); first | refine qg1 ?_ | refine qg2 ?_ | refine qg3 ?_ | refine qg4 ?_ | refine qg5 ?_ | refine qg6 (fun hb => ?_) (fun hb => ?_)) | ((with_reducible apply tagK); first | ((with_reducible apply tagD); first | refine qd5 (C37 _ _) ?_) | ((with_reducible apply tagR); first | refine qr5 (C37 _ _) ?_)) | ((with_reducible apply tagS); first | ((with_reducible apply tagD); first | refine qd1 ?_ | refine qd3 ?_) | ((with_reducible apply tagR); first | refine qr1 ?_ | refine qr3 ?_)) | ((with_reducible apply tagN); first | ((with_reducible apply tagD); first | refine qd2 ?_ | refine qd4 ?_) | ((with_reducible apply tagR); first | refine qr2 ?_ | refine qr4 ?_)) | ((with_reducible apply tagW); first | refine qw1 ?_ | refine qw2 ?_ | refine qw3 ?_ | refine qw4 ?_ | refine qw5 ?_ | refine qw6 (fun hb => ?_) (fun hb => ?_) | refine qw7 ?_ | refine qw8 ?_ | refine qw9 ?_ | refine qw0 ?_) | refine thenQ_n ?_ | refine thenQ_e ?_ | refine thenQ_r ?_ | refine blockQ_n ?_ | refine blockQ_r ?_ | refine blockQ_hit ?_ | refine qb4 ?_ | refine qe ?_ | refine loopQ_e ?_ | refine loopQ_r ?_
      all_goals clear E
      exact ret_d rfl rfl
    | true =>
    obtain ⟨g, hg, i0, i1⟩ := wi_get hin
    have i2 : (decide (0 ≤ x.fn) && decide (x.fn < (c.funs.length : Int))) = true := hin
    by_cases hst : x.states < 0
    · rw [b1 (all_badG hx (by simp [actGood, hst]))]
      have E := And.intro @hj1 (And.intro (actrs_get hx) (And.intro @i0 (And.intro @i1 (And.intro @i2 (@hst)))))
      repeat' first | refine R_nil ?_ | ((with_reducible apply tagG); first | refine qg1 ?_ | refine qg2 ?_ | refine qg3 ?_ | refine qg4 ?_ | refine qg5 ?_ | refine qg6 (fun hb => ?_) (fun hb => ?_)) | ((with_reducible apply tagK); first | ((with_reducible apply tagD); first | refine qd5 (C37 _ _) ?_) | ((with_reducible apply tagR); first | refine qr5 (C37 _ _) ?_)) | ((with_reducible apply tagS); first | ((with_reducible apply tagD); first | refine qd1 ?_ | refine qd3 ?_) | ((with_reducible apply tagR); first | refine qr1 ?_ | refine qr3 ?_)) | ((with_reducible apply tagN); first | ((with_reducible apply tagD); first | refine qd2 ?_ | refine qd4 ?_) | ((with_reducible apply tagR); first | refine qr2 ?_ | refine qr4 ?_)) | ((with_reducible apply tagW); first | refine qw1 ?_ | refine qw2 ?_ | refine qw3 ?_ | refine qw4 ?_ | refine qw5 ?_ | refine qw6 (fun hb => ?_) (fun hb => ?_) | refine qw7 ?_ | refine qw8 ?_ | refine qw9 ?_ | refine qw0 ?_) | refine thenQ_n ?_ | refine thenQ_e ?_ | refine thenQ_r ?_ | refine blockQ_n ?_ | refine blockQ_r ?_ | refine blockQ_hit ?_ | refine qb4 ?_ | refine qe ?_ | refine loopQ_e ?_ | refine loopQ_r ?_
      all_goals clear E
      exact ret_d rfl rfl
    cases hp : decide (g.params = x.states) with
    | false =>
      rw [b1 (all_badG hx (by simp [actGood, hg, hp]))]
      have E := And.intro @hj1 (And.intro (actrs_get hx) (And.intro @i0 (And.intro @i1 (And.intro @i2 (And.intro @hst (And.intro @hp ((fns_get hg))))))))
      repeat' first | refine R_nil ?_ | ((with_reducible apply tagG); first | refine qg1 ?_ | refine qg2 ?_ | refine qg3 ?_ | refine qg4 ?_ | refine qg5 ?_ | refine qg6 (fun hb => ?_) (fun hb => ?_)) | ((with_reducible apply tagK); first | ((with_reducible apply tagD); first | refine qd5 (C37 _ _) ?_) | ((with_reducible apply tagR); first | refine qr5 (C37 _ _) ?_)) | ((with_reducible apply tagS); first | ((with_reducible apply tagD); first | refine qd1 ?_ | refine qd3 ?_) | ((with_reducible apply tagR); first | refine qr1 ?_ | refine qr3 ?_)) | ((with_reducible apply tagN); first | ((with_reducible apply tagD); first | refine qd2 ?_ | refine qd4 ?_) | ((with_reducible apply tagR); first | refine qr2 ?_ | refine qr4 ?_)) | ((with_reducible apply tagW); first | refine qw1 ?_ | refine qw2 ?_ | refine qw3 ?_ | refine qw4 ?_ | refine qw5 ?_ | refine qw6 (fun hb => ?_) (fun hb => ?_) | refine qw7 ?_ | refine qw8 ?_ | refine qw9 ?_ | refine qw0 ?_) | refine thenQ_n ?_ | refine thenQ_e ?_ | refine thenQ_r ?_ | refine blockQ_n ?_ | refine blockQ_r ?_ | refine blockQ_hit ?_ | refine qb4 ?_ | refine qe ?_ | refine loopQ_e ?_ | refine loopQ_r ?_
      all_goals clear E
      exact ret_d rfl rfl
    | true =>
    cases hh : decide (g.holds = 0) with
    | false =>
      rw [b1 (all_badG hx (by simp [actGood, hg, hh]))]
      have E := And.intro @hj1 (And.intro (actrs_get hx) (And.intro @i0 (And.intro @i1 (And.intro @i2 (And.intro @hst (And.intro @hp (And.intro @hh ((fns_get hg)))))))))
      repeat' first | refine R_nil ?_ | ((with_reducible apply tagG); first | refine qg1 ?_ | refine qg2 ?_ | refine qg3 ?_ | refine qg4 ?_ | refine qg5 ?_ | refine qg6 (fun hb => ?_) (fun hb => ?_)) | ((with_reducible apply tagK); first | ((with_reducible apply tagD); first | refine qd5 (C37 _ _) ?_) | ((with_reducible apply tagR); first | refine qr5 (C37 _ _) ?_)) | ((with_reducible apply tagS); first | ((with_reducible apply tagD); first | refine qd1 ?_ | refine qd3 ?_) | ((with_reducible apply tagR); first | refine qr1 ?_ | refine qr3 ?_)) | ((with_reducible apply tagN); first | ((with_reducible apply tagD); first | refine qd2 ?_ | refine qd4 ?_) | ((with_reducible apply tagR); first | refine qr2 ?_ | refine qr4 ?_)) | ((with_reducible apply tagW); first | refine qw1 ?_ | refine qw2 ?_ | refine qw3 ?_ | refine qw4 ?_ | refine qw5 ?_ | refine qw6 (fun hb => ?_) (fun hb => ?_) | refine qw7 ?_ | refine qw8 ?_ | refine qw9 ?_ | refine qw0 ?_) | refine thenQ_n ?_ | refine thenQ_e ?_ | refine thenQ_r ?_ | refine blockQ_n ?_ | refine blockQ_r ?_ | refine blockQ_hit ?_ | refine qb4 ?_ | refine qe ?_ | refine loopQ_e ?_ | refine loopQ_r ?_
      all_goals clear E
      exact ret_d rfl rfl
    | true =>
    cases ht : x.top with
    | false =>
      have E := And.intro @hj1 (And.intro (actrs_get hx) (And.intro @i0 (And.intro @i1 (And.intro @i2 (And.intro @hst (And.intro @hp (And.intro @hh (And.intro (fns_get hg) (@ht)))))))))
      repeat' first | refine R_nil ?_ | ((with_reducible apply tagG); first | refine qg1 ?_ | refine qg2 ?_ | refine qg3 ?_ | refine qg4 ?_ | refine qg5 ?_ | refine qg6 (fun hb => ?_) (fun hb => ?_)) | ((with_reducible apply tagK); first | ((with_reducible apply tagD); first | refine qd5 (C37 _ _) ?_) | ((with_reducible apply tagR); first | refine qr5 (C37 _ _) ?_)) | ((with_reducible apply tagS); first | ((with_reducible apply tagD); first | refine qd1 ?_ | refine qd3 ?_) | ((with_reducible apply tagR); first | refine qr1 ?_ | refine qr3 ?_)) | ((with_reducible apply tagN); first | ((with_reducible apply tagD); first | refine qd2 ?_ | refine qd4 ?_) | ((with_reducible apply tagR); first | refine qr2 ?_ | refine qr4 ?_)) | ((with_reducible apply tagW); first | refine qw1 ?_ | refine qw2 ?_ | refine qw3 ?_ | refine qw4 ?_ | refine qw5 ?_ | refine qw6 (fun hb => ?_) (fun hb => ?_) | refine qw7 ?_ | refine qw8 ?_ | refine qw9 ?_ | refine qw0 ?_) | refine thenQ_n ?_ | refine thenQ_e ?_ | refine thenQ_r ?_ | refine blockQ_n ?_ | refine blockQ_r ?_ | refine blockQ_hit ?_ | refine qb4 ?_ | refine qe ?_ | refine loopQ_e ?_ | refine loopQ_r ?_
      all_goals clear E
      refine loopQ_n (j + 1) (by omega) ⟨by omega, all_step hj2 hx (by simp [actGood, hg, hp, hh, hin, hst, ht])⟩ qs
    | true =>
    cases hgi : g.ins with
    | nil =>
      have hl0 : (g.ins.length : Int) < 1 := by simp [hgi]
      rw [b1 (all_badG hx (by simp [actGood, hg, ht, topOk, hgi]))]
      have E := And.intro @hj1 (And.intro (actrs_get hx) (And.intro @i0 (And.intro @i1 (And.intro @i2 (And.intro @hst (And.intro @hp (And.intro @hh (And.intro (fns_get hg) (And.intro @ht (@hl0))))))))))
      repeat' first | refine R_nil ?_ | ((with_reducible apply tagG); first | refine qg1 ?_ | refine qg2 ?_ | refine qg3 ?_ | refine qg4 ?_ | refine qg5 ?_ | refine qg6 (fun hb => ?_) (fun hb => ?_)) | ((with_reducible apply tagK); first | ((with_reducible apply tagD); first | refine qd5 (C37 _ _) ?_) | ((with_reducible apply tagR); first | refine qr5 (C37 _ _) ?_)) | ((with_reducible apply tagS); first | ((with_reducible apply tagD); first | refine qd1 ?_ | refine qd3 ?_) | ((with_reducible apply tagR); first | refine qr1 ?_ | refine qr3 ?_)) | ((with_reducible apply tagN); first | ((with_reducible apply tagD); first | refine qd2 ?_ | refine qd4 ?_) | ((with_reducible apply tagR); first | refine qr2 ?_ | refine qr4 ?_)) | ((with_reducible apply tagW); first | refine qw1 ?_ | refine qw2 ?_ | refine qw3 ?_ | refine qw4 ?_ | refine qw5 ?_ | refine qw6 (fun hb => ?_) (fun hb => ?_) | refine qw7 ?_ | refine qw8 ?_ | refine qw9 ?_ | refine qw0 ?_) | refine thenQ_n ?_ | refine thenQ_e ?_ | refine thenQ_r ?_ | refine blockQ_n ?_ | refine blockQ_r ?_ | refine blockQ_hit ?_ | refine qb4 ?_ | refine qe ?_ | refine loopQ_e ?_ | refine loopQ_r ?_
      all_goals clear E
      exact ret_d rfl rfl
    | cons y l =>
      have hl0 : ¬ (g.ins.length : Int) < 1 := by simp [hgi]; omega
      have hl1 : (0:Int) < (g.ins.length : Int) := by simp [hgi]
      have hy : g.ins[0]? = some y := by rw [hgi]; rfl
      have t0 : Int.toNat 0 = 0 := rfl
      cases ho : decide (y.op = 16) with
      | false =>
        rw [b1 (all_badG hx (by simp [actGood, hg, ht, topOk, hgi, ho]))]
        have E := And.intro @hj1 (And.intro (actrs_get hx) (And.intro @i0 (And.intro @i1 (And.intro @i2 (And.intro @hst (And.intro @hp (And.intro @hh (And.intro (fns_get hg) (And.intro @ht (And.intro @hl0 (And.intro @hl1 (And.intro @t0 (And.intro (inss_get hy) (@ho))))))))))))))
        repeat' first | refine R_nil ?_ | ((with_reducible apply tagG); first | refine qg1 ?_ | refine qg2 ?_ | refine qg3 ?_ | refine qg4 ?_ | refine qg5 ?_ | refine qg6 (fun hb => ?_) (fun hb => ?_)) | ((with_reducible apply tagK); first | ((with_reducible apply tagD); first | refine qd5 (C37 _ _) ?_) | ((with_reducible apply tagR); first | refine qr5 (C37 _ _) ?_)) | ((with_reducible apply tagS); first | ((with_reducible apply tagD); first | refine qd1 ?_ | refine qd3 ?_) | ((with_reducible apply tagR); first | refine qr1 ?_ | refine qr3 ?_)) | ((with_reducible apply tagN); first | ((with_reducible apply tagD); first | refine qd2 ?_ | refine qd4 ?_) | ((with_reducible apply tagR); first | refine qr2 ?_ | refine qr4 ?_)) | ((with_reducible apply tagW); first | refine qw1 ?_ | refine qw2 ?_ | refine qw3 ?_ | refine qw4 ?_ | refine qw5 ?_ | refine qw6 (fun hb => ?_) (fun hb => ?_) | refine qw7 ?_ | refine qw8 ?_ | refine qw9 ?_ | refine qw0 ?_) | refine thenQ_n ?_ | refine thenQ_e ?_ | refine thenQ_r ?_ | refine blockQ_n ?_ | refine blockQ_r ?_ | refine blockQ_hit ?_ | refine qb4 ?_ | refine qe ?_ | refine loopQ_e ?_ | refine loopQ_r ?_
        all_goals clear E
        exact ret_d rfl rfl
      | true =>
        have E := And.intro @hj1 (And.intro (actrs_get hx) (And.intro @i0 (And.intro @i1 (And.intro @i2 (And.intro @hst (And.intro @hp (And.intro @hh (And.intro (fns_get hg) (And.intro @ht (And.intro @hl0 (And.intro @hl1 (And.intro @t0 (And.intro (inss_get hy) (@ho))))))))))))))
        repeat' first | refine R_nil ?_ | ((with_reducible apply tagG); first | refine qg1 ?_ | refine qg2 ?_ | refine qg3 ?_ | refine qg4 ?_ | refine qg5 ?_ | refine qg6 (fun hb => ?_) (fun hb => ?_)) | ((with_reducible apply tagK); first | ((with_reducible apply tagD); first | refine qd5 (C37 _ _) ?_) | ((with_reducible apply tagR); first | refine qr5 (C37 _ _) ?_)) | ((with_reducible apply tagS); first | ((with_reducible apply tagD); first | refine qd1 ?_ | refine qd3 ?_) | ((with_reducible apply tagR); first | refine qr1 ?_ | refine qr3 ?_)) | ((with_reducible apply tagN); first | ((with_reducible apply tagD); first | refine qd2 ?_ | refine qd4 ?_) | ((with_reducible apply tagR); first | refine qr2 ?_ | refine qr4 ?_)) | ((with_reducible apply tagW); first | refine qw1 ?_ | refine qw2 ?_ | refine qw3 ?_ | refine qw4 ?_ | refine qw5 ?_ | refine qw6 (fun hb => ?_) (fun hb => ?_) | refine qw7 ?_ | refine qw8 ?_ | refine qw9 ?_ | refine qw0 ?_) | refine thenQ_n ?_ | refine thenQ_e ?_ | refine thenQ_r ?_ | refine blockQ_n ?_ | refine blockQ_r ?_ | refine blockQ_hit ?_ | refine qb4 ?_ | refine qe ?_ | refine loopQ_e ?_ | refine loopQ_r ?_
        all_goals clear E
        refine loopQ_n (j + 1) (by omega) ⟨by omega, all_step hj2 hx (by simp [actGood, hg, hp, hh, hin, hst, ht, topOk, hgi, ho])⟩ qs
  have hj1 : ¬ (j:Int) < c.actors.length := by omega
  have a1 := all_full hj2 hjl
  have E := @hj1
  repeat' first | refine R_nil ?_ | ((with_reducible apply tagG); first | refine qg1 ?_ | refine qg2 ?_ | refine qg3 ?_ | refine qg4 ?_ | refine qg5 ?_ | refine qg6 (fun hb => ?_) (fun hb => ?_)) | ((with_reducible apply tagS); first | ((with_reducible apply tagD); first | refine qd1 ?_ | refine qd3 ?_) | ((with_reducible apply tagR); first | refine qr1 ?_ | refine qr3 ?_)) | ((with_reducible apply tagN); first | ((with_reducible apply tagD); first | refine qd2 ?_ | refine qd4 ?_) | ((with_reducible apply tagR); first | refine qr2 ?_ | refine qr4 ?_)) | ((with_reducible apply tagW); first | refine qw1 ?_ | refine qw2 ?_ | refine qw3 ?_ | refine qw4 ?_ | refine qw5 ?_ | refine qw6 (fun hb => ?_) (fun hb => ?_) | refine qw7 ?_ | refine qw8 ?_ | refine qw9 ?_ | refine qw0 ?_) | refine thenQ_n ?_ | refine thenQ_e ?_ | refine thenQ_r ?_ | refine blockQ_n ?_ | refine blockQ_r ?_ | refine blockQ_hit ?_ | refine qb4 ?_ | refine qe ?_ | refine loopQ_e ?_ | refine loopQ_r ?_
  all_goals clear E
  refine W_loopQ (fun j : Nat => [(93, dInt j), (92, dInt c.impls.length), (91, .d (.sl (implsD c.impls))), (1, .ptr 1 0 0)]) (fun _ => [(1, some (.box c.cells))]) (fun j => c.impls.length - j) (fun j => j ≤ c.impls.length ∧ (c.impls.take j).all (implGood c) = true) 0 ⟨by omega, rfl⟩ qs fun j ⟨hj, hj2⟩ => ?_
  by_cases hjl : j < c.impls.length
  · obtain ⟨x, hx⟩ := get_ex hjl
    have hj1 : (j:Int) < c.impls.length := by omega
    cases hin : wi x.fn c.funs.length with
    | false =>
      rw [b2 (all_badG hx (by simp [implGood, hin]))]
      have hin' : (decide (0 ≤ x.fn) && decide (x.fn < (c.funs.length : Int))) = false := hin
      have E := And.intro @hj1 (And.intro (implsD_get hx) (@hin'))
      repeat' first | refine R_nil ?_ | ((with_reducible apply tagG); first | refine qg1 ?_ | refine qg2 ?_ | refine qg3 ?_ | refine qg4 ?_ | refine qg5 ?_ | refine qg6 (fun hb => ?_) (fun hb => ?_)) | ((with_reducible apply tagK); first | ((with_reducible apply tagD); first | refine qd5 (C37 _ _) ?_) | ((with_reducible apply tagR); first | refine qr5 (C37 _ _) ?_)) | ((with_reducible apply tagS); first | ((with_reducible apply tagD); first | refine qd1 ?_ | refine qd3 ?_) | ((with_reducible apply tagR); first | refine qr1 ?_ | refine qr3 ?_)) | ((with_reducible apply tagN); first | ((with_reducible apply tagD); first | refine qd2 ?_ | refine qd4 ?_) | ((with_reducible apply tagR); first | refine qr2 ?_ | refine qr4 ?_)) | ((with_reducible apply tagW); first | refine qw1 ?_ | refine qw2 ?_ | refine qw3 ?_ | refine qw4 ?_ | refine qw5 ?_ | refine qw6 (fun hb => ?_) (fun hb => ?_) | refine qw7 ?_ | refine qw8 ?_ | refine qw9 ?_ | refine qw0 ?_) | refine thenQ_n ?_ | refine thenQ_e ?_ | refine thenQ_r ?_ | refine blockQ_n ?_ | refine blockQ_r ?_ | refine blockQ_hit ?_ | refine qb4 ?_ | refine qe ?_ | refine loopQ_e ?_ | refine loopQ_r ?_
      all_goals clear E
      exact ret_d rfl rfl
    | true =>
    obtain ⟨g, hg, i0, i1⟩ := wi_get hin
    have i2 : (decide (0 ≤ x.fn) && decide (x.fn < (c.funs.length : Int))) = true := hin
    cases hh : decide (g.holds = 0) with
    | false =>
      rw [b2 (all_badG hx (by simp [implGood, hg, hh]))]
      have E := And.intro @hj1 (And.intro (implsD_get hx) (And.intro @i0 (And.intro @i1 (And.intro @i2 (And.intro @hh ((fns_get hg)))))))
      repeat' first | refine R_nil ?_ | ((with_reducible apply tagG); first | refine qg1 ?_ | refine qg2 ?_ | refine qg3 ?_ | refine qg4 ?_ | refine qg5 ?_ | refine qg6 (fun hb => ?_) (fun hb => ?_)) | ((with_reducible apply tagK); first | ((with_reducible apply tagD); first | refine qd5 (C37 _ _) ?_) | ((with_reducible apply tagR); first | refine qr5 (C37 _ _) ?_)) | ((with_reducible apply tagS); first | ((with_reducible apply tagD); first | refine qd1 ?_ | refine qd3 ?_) | ((with_reducible apply tagR); first | refine qr1 ?_ | refine qr3 ?_)) | ((with_reducible apply tagN); first | ((with_reducible apply tagD); first | refine qd2 ?_ | refine qd4 ?_) | ((with_reducible apply tagR); first | refine qr2 ?_ | refine qr4 ?_)) | ((with_reducible apply tagW); first | refine qw1 ?_ | refine qw2 ?_ | refine qw3 ?_ | refine qw4 ?_ | refine qw5 ?_ | refine qw6 (fun hb => ?_) (fun hb => ?_) | refine qw7 ?_ | refine qw8 ?_ | refine qw9 ?_ | refine qw0 ?_) | refine thenQ_n ?_ | refine thenQ_e ?_ | refine thenQ_r ?_ | refine blockQ_n ?_ | refine blockQ_r ?_ | refine blockQ_hit ?_ | refine qb4 ?_ | refine qe ?_ | refine loopQ_e ?_ | refine loopQ_r ?_
      all_goals clear E
      exact ret_d rfl rfl
    | true =>
      have E := And.intro @hj1 (And.intro (implsD_get hx) (And.intro @i0 (And.intro @i1 (And.intro @i2 (And.intro @hh ((fns_get hg)))))))
      repeat' first | refine R_nil ?_ | ((with_reducible apply tagG); first | refine qg1 ?_ | refine qg2 ?_ | refine qg3 ?_ | refine qg4 ?_ | refine qg5 ?_ | refine qg6 (fun hb => ?_) (fun hb => ?_)) | ((with_reducible apply tagK); first | ((with_reducible apply tagD); first | refine qd5 (C37 _ _) ?_) | ((with_reducible apply tagR); first | refine qr5 (C37 _ _) ?_)) | ((with_reducible apply tagS); first | ((with_reducible apply tagD); first | refine qd1 ?_ | refine qd3 ?_) | ((with_reducible apply tagR); first | refine qr1 ?_ | refine qr3 ?_)) | ((with_reducible apply tagN); first | ((with_reducible apply tagD); first | refine qd2 ?_ | refine qd4 ?_) | ((with_reducible apply tagR); first | refine qr2 ?_ | refine qr4 ?_)) | ((with_reducible apply tagW); first | refine qw1 ?_ | refine qw2 ?_ | refine qw3 ?_ | refine qw4 ?_ | refine qw5 ?_ | refine qw6 (fun hb => ?_) (fun hb => ?_) | refine qw7 ?_ | refine qw8 ?_ | refine qw9 ?_ | refine qw0 ?_) | refine thenQ_n ?_ | refine thenQ_e ?_ | refine thenQ_r ?_ | refine blockQ_n ?_ | refine blockQ_r ?_ | refine blockQ_hit ?_ | refine qb4 ?_ | refine qe ?_ | refine loopQ_e ?_ | refine loopQ_r ?_
      all_goals clear E
      refine loopQ_n (j + 1) (by omega) ⟨by omega, all_step hj2 hx (by simp [implGood, hg, hh, hin])⟩ qs
  have hj1 : ¬ (j:Int) < c.impls.length := by omega
  have a2 := all_full hj2 hjl
  have E := @hj1
  repeat' first | refine R_nil ?_ | ((with_reducible apply tagG); first | refine qg1 ?_ | refine qg2 ?_ | refine qg3 ?_ | refine qg4 ?_ | refine qg5 ?_ | refine qg6 (fun hb => ?_) (fun hb => ?_)) | ((with_reducible apply tagS); first | ((with_reducible apply tagD); first | refine qd1 ?_ | refine qd3 ?_) | ((with_reducible apply tagR); first | refine qr1 ?_ | refine qr3 ?_)) | ((with_reducible apply tagN); first | ((with_reducible apply tagD); first | refine qd2 ?_ | refine qd4 ?_) | ((with_reducible apply tagR); first | refine qr2 ?_ | refine qr4 ?_)) | ((with_reducible apply tagW); first | refine qw1 ?_ | refine qw2 ?_ | refine qw3 ?_ | refine qw4 ?_ | refine qw5 ?_ | refine qw6 (fun hb => ?_) (fun hb => ?_) | refine qw7 ?_ | refine qw8 ?_ | refine qw9 ?_ | refine qw0 ?_) | refine thenQ_n ?_ | refine thenQ_e ?_ | refine thenQ_r ?_ | refine blockQ_n ?_ | refine blockQ_r ?_ | refine blockQ_hit ?_ | refine qb4 ?_ | refine qe ?_ | refine loopQ_e ?_ | refine loopQ_r ?_
  all_goals clear E
  refine W_loopQ (fun j : Nat => [(118, dInt j), (117, dInt c.makers.length), (116, .d (.sl (makersD c.makers))), (1, .ptr 1 0 0)]) (fun _ => [(1, some (.box c.cells))]) (fun j => c.makers.length - j) (fun j => j ≤ c.makers.length ∧ ((c.makers.take j).all fun m => !decide (m.args < 0)) = true) 0 ⟨by omega, rfl⟩ qs fun j ⟨hj, hj2⟩ => ?_
  by_cases hjl : j < c.makers.length
  · obtain ⟨x, hx⟩ := get_ex hjl
    have hj1 : (j:Int) < c.makers.length := by omega
    by_cases hst : x.args < 0
    · rw [b3 (all_badG hx (by simp [hst]))]
      have E := And.intro @hj1 (And.intro (makersD_get hx) (@hst))
      repeat' first | refine R_nil ?_ | ((with_reducible apply tagG); first | refine qg1 ?_ | refine qg2 ?_ | refine qg3 ?_ | refine qg4 ?_ | refine qg5 ?_ | refine qg6 (fun hb => ?_) (fun hb => ?_)) | ((with_reducible apply tagS); first | ((with_reducible apply tagD); first | refine qd1 ?_ | refine qd3 ?_) | ((with_reducible apply tagR); first | refine qr1 ?_ | refine qr3 ?_)) | ((with_reducible apply tagN); first | ((with_reducible apply tagD); first | refine qd2 ?_ | refine qd4 ?_) | ((with_reducible apply tagR); first | refine qr2 ?_ | refine qr4 ?_)) | ((with_reducible apply tagW); first | refine qw1 ?_ | refine qw2 ?_ | refine qw3 ?_ | refine qw4 ?_ | refine qw5 ?_ | refine qw6 (fun hb => ?_) (fun hb => ?_) | refine qw7 ?_ | refine qw8 ?_ | refine qw9 ?_ | refine qw0 ?_) | refine thenQ_n ?_ | refine thenQ_e ?_ | refine thenQ_r ?_ | refine blockQ_n ?_ | refine blockQ_r ?_ | refine blockQ_hit ?_ | refine qb4 ?_ | refine qe ?_ | refine loopQ_e ?_ | refine loopQ_r ?_
      all_goals clear E
      exact ret_d rfl rfl
    · have E := And.intro @hj1 (And.intro (makersD_get hx) (@hst))
      repeat' first | refine R_nil ?_ | ((with_reducible apply tagG); first | refine qg1 ?_ | refine qg2 ?_ | refine qg3 ?_ | refine qg4 ?_ | refine qg5 ?_ | refine qg6 (fun hb => ?_) (fun hb => ?_)) | ((with_reducible apply tagS); first | ((with_reducible apply tagD); first | refine qd1 ?_ | refine qd3 ?_) | ((with_reducible apply tagR); first | refine qr1 ?_ | refine qr3 ?_)) | ((with_reducible apply tagN); first | ((with_reducible apply tagD); first | refine qd2 ?_ | refine qd4 ?_) | ((with_reducible apply tagR); first | refine qr2 ?_ | refine qr4 ?_)) | ((with_reducible apply tagW); first | refine qw1 ?_ | refine qw2 ?_ | refine qw3 ?_ | refine qw4 ?_ | refine qw5 ?_ | refine qw6 (fun hb => ?_) (fun hb => ?_) | refine qw7 ?_ | refine qw8 ?_ | refine qw9 ?_ | refine qw0 ?_) | refine thenQ_n ?_ | refine thenQ_e ?_ | refine thenQ_r ?_ | refine blockQ_n ?_ | refine blockQ_r ?_ | refine blockQ_hit ?_ | refine qb4 ?_ | refine qe ?_ | refine loopQ_e ?_ | refine loopQ_r ?_
      all_goals clear E
      refine loopQ_n (j + 1) (by omega) ⟨by omega, all_step hj2 hx (by simp [hst])⟩ qs
  have hj1 : ¬ (j:Int) < c.makers.length := by omega
  have a3 := all_full hj2 hjl
  have e : codErr c = funsErr c c.funs := by unfold codErr; rw [if_neg hl, a1, a2, a3]; rfl
  rw [e]
  have E := @hj1
  repeat' first | refine R_nil ?_ | ((with_reducible apply tagG); first | refine qg1 ?_ | refine qg2 ?_ | refine qg3 ?_ | refine qg4 ?_ | refine qg5 ?_ | refine qg6 (fun hb => ?_) (fun hb => ?_)) | ((with_reducible apply tagS); first | ((with_reducible apply tagD); first | refine qd1 ?_ | refine qd3 ?_) | ((with_reducible apply tagR); first | refine qr1 ?_ | refine qr3 ?_)) | ((with_reducible apply tagN); first | ((with_reducible apply tagD); first | refine qd2 ?_ | refine qd4 ?_) | ((with_reducible apply tagR); first | refine qr2 ?_ | refine qr4 ?_)) | ((with_reducible apply tagW); first | refine qw1 ?_ | refine qw2 ?_ | refine qw3 ?_ | refine qw4 ?_ | refine qw5 ?_ | refine qw6 (fun hb => ?_) (fun hb => ?_) | refine qw7 ?_ | refine qw8 ?_ | refine qw9 ?_ | refine qw0 ?_) | refine thenQ_n ?_ | refine thenQ_e ?_ | refine thenQ_r ?_ | refine blockQ_n ?_ | refine blockQ_r ?_ | refine blockQ_hit ?_ | refine qb4 ?_ | refine qe ?_ | refine loopQ_e ?_ | refine loopQ_r ?_
  all_goals clear E
  refine W_loopQ (fun j : Nat => [(129, dInt j), (128, dInt c.funs.length), (127, .d (.sl (fns c.funs))), (1, .ptr 1 0 0)]) (fun _ => [(1, some (.box c.cells))]) (fun j => c.funs.length - j) (fun j => j ≤ c.funs.length ∧ funsErr c c.funs = funsErr c (c.funs.drop j)) 0 ⟨by omega, rfl⟩ qs fun j ⟨hj, hj2⟩ => ?_
  by_cases hjl : j < c.funs.length
  · obtain ⟨x, hx⟩ := get_ex hjl
    have hj1 : (j:Int) < c.funs.length := by omega
    have hm := List.mem_of_getElem? hx
    have hxl := k8 x hm
    rw [hj2, drop_some hx, funsErr]
    by_cases hL : 4000 < x.ins.length ∨ 2000 < x.regs
    · have e : funErr c x = 2 := by unfold funErr; rw [if_pos hL]
      rw [e, if_neg (by decide)]
      by_cases h2 : 4000 < x.ins.length
      · have h3 : (4000:Int) < x.ins.length := by omega
        have E := And.intro @hj1 (And.intro (fns_get hx) (@h3))
        repeat' first | refine R_nil ?_ | ((with_reducible apply tagG); first | refine qg1 ?_ | refine qg2 ?_ | refine qg3 ?_ | refine qg4 ?_ | refine qg5 ?_ | refine qg6 (fun hb => ?_) (fun hb => ?_)) | ((with_reducible apply tagS); first | ((with_reducible apply tagD); first | refine qd1 ?_ | refine qd3 ?_) | ((with_reducible apply tagR); first | refine qr1 ?_ | refine qr3 ?_)) | ((with_reducible apply tagN); first | ((with_reducible apply tagD); first | refine qd2 ?_ | refine qd4 ?_) | ((with_reducible apply tagR); first | refine qr2 ?_ | refine qr4 ?_)) | ((with_reducible apply tagW); first | refine qw1 ?_ | refine qw2 ?_ | refine qw3 ?_ | refine qw4 ?_ | refine qw5 ?_ | refine qw6 (fun hb => ?_) (fun hb => ?_) | refine qw7 ?_ | refine qw8 ?_ | refine qw9 ?_ | refine qw0 ?_) | refine thenQ_n ?_ | refine thenQ_e ?_ | refine thenQ_r ?_ | refine blockQ_n ?_ | refine blockQ_r ?_ | refine blockQ_hit ?_ | refine qb4 ?_ | refine qe ?_ | refine loopQ_e ?_ | refine loopQ_r ?_
        all_goals clear E
        exact ret_d rfl rfl
      · have h3 : ¬ (4000:Int) < x.ins.length := by omega
        have h4 : 2000 < x.regs := by omega
        have E := And.intro @hj1 (And.intro (fns_get hx) (And.intro @h3 (@h4)))
        repeat' first | refine R_nil ?_ | ((with_reducible apply tagG); first | refine qg1 ?_ | refine qg2 ?_ | refine qg3 ?_ | refine qg4 ?_ | refine qg5 ?_ | refine qg6 (fun hb => ?_) (fun hb => ?_)) | ((with_reducible apply tagS); first | ((with_reducible apply tagD); first | refine qd1 ?_ | refine qd3 ?_) | ((with_reducible apply tagR); first | refine qr1 ?_ | refine qr3 ?_)) | ((with_reducible apply tagN); first | ((with_reducible apply tagD); first | refine qd2 ?_ | refine qd4 ?_) | ((with_reducible apply tagR); first | refine qr2 ?_ | refine qr4 ?_)) | ((with_reducible apply tagW); first | refine qw1 ?_ | refine qw2 ?_ | refine qw3 ?_ | refine qw4 ?_ | refine qw5 ?_ | refine qw6 (fun hb => ?_) (fun hb => ?_) | refine qw7 ?_ | refine qw8 ?_ | refine qw9 ?_ | refine qw0 ?_) | refine thenQ_n ?_ | refine thenQ_e ?_ | refine thenQ_r ?_ | refine blockQ_n ?_ | refine blockQ_r ?_ | refine blockQ_hit ?_ | refine qb4 ?_ | refine qe ?_ | refine loopQ_e ?_ | refine loopQ_r ?_
        all_goals clear E
        exact ret_d rfl rfl
    have h2 : ¬ (4000:Int) < x.ins.length := by omega
    have h3 : ¬ 2000 < x.regs := by omega
    have e : funErr c x = if headBad x then 3 else if allGood c x then 0 else 3 := by unfold funErr; rw [if_neg hL]
    cases hw1 : (decide (0 ≤ x.params) && decide (x.params < 2001)) with
    | false =>
      have hh : headBad x = true := by simp [headBad]; simp at hw1; omega
      rw [e, if_pos hh, if_neg (by decide)]
      have E := And.intro @hj1 (And.intro (fns_get hx) (And.intro @h2 (And.intro @h3 (@hw1))))
      repeat' first | refine R_nil ?_ | ((with_reducible apply tagG); first | refine qg1 ?_ | refine qg2 ?_ | refine qg3 ?_ | refine qg4 ?_ | refine qg5 ?_ | refine qg6 (fun hb => ?_) (fun hb => ?_)) | ((with_reducible apply tagK); first | ((with_reducible apply tagD); first | refine qd5 (C37 _ _) ?_) | ((with_reducible apply tagR); first | refine qr5 (C37 _ _) ?_)) | ((with_reducible apply tagS); first | ((with_reducible apply tagD); first | refine qd1 ?_ | refine qd3 ?_) | ((with_reducible apply tagR); first | refine qr1 ?_ | refine qr3 ?_)) | ((with_reducible apply tagN); first | ((with_reducible apply tagD); first | refine qd2 ?_ | refine qd4 ?_) | ((with_reducible apply tagR); first | refine qr2 ?_ | refine qr4 ?_)) | ((with_reducible apply tagW); first | refine qw1 ?_ | refine qw2 ?_ | refine qw3 ?_ | refine qw4 ?_ | refine qw5 ?_ | refine qw6 (fun hb => ?_) (fun hb => ?_) | refine qw7 ?_ | refine qw8 ?_ | refine qw9 ?_ | refine qw0 ?_) | refine thenQ_n ?_ | refine thenQ_e ?_ | refine thenQ_r ?_ | refine blockQ_n ?_ | refine blockQ_r ?_ | refine blockQ_hit ?_ | refine qb4 ?_ | refine qe ?_ | refine loopQ_e ?_ | refine loopQ_r ?_
      all_goals clear E
      exact ret_d rfl rfl
    | true =>
    cases hw2 : (decide (0 ≤ x.holds) && decide (x.holds < 2001)) with
    | false =>
      have hh : headBad x = true := by simp [headBad]; simp at hw2; omega
      rw [e, if_pos hh, if_neg (by decide)]
      have E := And.intro @hj1 (And.intro (fns_get hx) (And.intro @h2 (And.intro @h3 (And.intro @hw1 (@hw2)))))
      repeat' first | refine R_nil ?_ | ((with_reducible apply tagG); first | refine qg1 ?_ | refine qg2 ?_ | refine qg3 ?_ | refine qg4 ?_ | refine qg5 ?_ | refine qg6 (fun hb => ?_) (fun hb => ?_)) | ((with_reducible apply tagK); first | ((with_reducible apply tagD); first | refine qd5 (C37 _ _) ?_) | ((with_reducible apply tagR); first | refine qr5 (C37 _ _) ?_)) | ((with_reducible apply tagS); first | ((with_reducible apply tagD); first | refine qd1 ?_ | refine qd3 ?_) | ((with_reducible apply tagR); first | refine qr1 ?_ | refine qr3 ?_)) | ((with_reducible apply tagN); first | ((with_reducible apply tagD); first | refine qd2 ?_ | refine qd4 ?_) | ((with_reducible apply tagR); first | refine qr2 ?_ | refine qr4 ?_)) | ((with_reducible apply tagW); first | refine qw1 ?_ | refine qw2 ?_ | refine qw3 ?_ | refine qw4 ?_ | refine qw5 ?_ | refine qw6 (fun hb => ?_) (fun hb => ?_) | refine qw7 ?_ | refine qw8 ?_ | refine qw9 ?_ | refine qw0 ?_) | refine thenQ_n ?_ | refine thenQ_e ?_ | refine thenQ_r ?_ | refine blockQ_n ?_ | refine blockQ_r ?_ | refine blockQ_hit ?_ | refine qb4 ?_ | refine qe ?_ | refine loopQ_e ?_ | refine loopQ_r ?_
      all_goals clear E
      exact ret_d rfl rfl
    | true =>
    have q1 : 0 ≤ x.params ∧ x.params < 2001 := by simpa using hw1
    have q2 : 0 ≤ x.holds ∧ x.holds < 2001 := by simpa using hw2
    have g7 : IntKind.i64.wrap (x.params + x.holds) = x.params + x.holds := wrap_i64 (by omega) (by omega)
    by_cases g5 : x.regs < x.params + x.holds
    · have hh : headBad x = true := by simp [headBad]; omega
      rw [e, if_pos hh, if_neg (by decide)]
      have E := And.intro @hj1 (And.intro (fns_get hx) (And.intro @h2 (And.intro @h3 (And.intro @hw1 (And.intro @hw2 (And.intro @g7 (@g5)))))))
      repeat' first | refine R_nil ?_ | ((with_reducible apply tagG); first | refine qg1 ?_ | refine qg2 ?_ | refine qg3 ?_ | refine qg4 ?_ | refine qg5 ?_ | refine qg6 (fun hb => ?_) (fun hb => ?_)) | ((with_reducible apply tagK); first | ((with_reducible apply tagD); first | refine qd5 (C37 _ _) ?_) | ((with_reducible apply tagR); first | refine qr5 (C37 _ _) ?_)) | ((with_reducible apply tagS); first | ((with_reducible apply tagD); first | refine qd1 ?_ | refine qd3 ?_) | ((with_reducible apply tagR); first | refine qr1 ?_ | refine qr3 ?_)) | ((with_reducible apply tagN); first | ((with_reducible apply tagD); first | refine qd2 ?_ | refine qd4 ?_) | ((with_reducible apply tagR); first | refine qr2 ?_ | refine qr4 ?_)) | ((with_reducible apply tagW); first | refine qw1 ?_ | refine qw2 ?_ | refine qw3 ?_ | refine qw4 ?_ | refine qw5 ?_ | refine qw6 (fun hb => ?_) (fun hb => ?_) | refine qw7 ?_ | refine qw8 ?_ | refine qw9 ?_ | refine qw0 ?_) | refine thenQ_n ?_ | refine thenQ_e ?_ | refine thenQ_r ?_ | refine blockQ_n ?_ | refine blockQ_r ?_ | refine blockQ_hit ?_ | refine qb4 ?_ | refine qe ?_ | refine loopQ_e ?_ | refine loopQ_r ?_
      all_goals clear E
      exact ret_d rfl rfl
    cases hz : decide ((x.ins.length : Int) = 0) with
    | true =>
      have hh : headBad x = true := by simp [headBad]; simp at hz; simp [hz]
      rw [e, if_pos hh, if_neg (by decide)]
      have E := And.intro @hj1 (And.intro (fns_get hx) (And.intro @h2 (And.intro @h3 (And.intro @hw1 (And.intro @hw2 (And.intro @g7 (And.intro @g5 (@hz))))))))
      repeat' first | refine R_nil ?_ | ((with_reducible apply tagG); first | refine qg1 ?_ | refine qg2 ?_ | refine qg3 ?_ | refine qg4 ?_ | refine qg5 ?_ | refine qg6 (fun hb => ?_) (fun hb => ?_)) | ((with_reducible apply tagK); first | ((with_reducible apply tagD); first | refine qd5 (C37 _ _) ?_) | ((with_reducible apply tagR); first | refine qr5 (C37 _ _) ?_)) | ((with_reducible apply tagS); first | ((with_reducible apply tagD); first | refine qd1 ?_ | refine qd3 ?_) | ((with_reducible apply tagR); first | refine qr1 ?_ | refine qr3 ?_)) | ((with_reducible apply tagN); first | ((with_reducible apply tagD); first | refine qd2 ?_ | refine qd4 ?_) | ((with_reducible apply tagR); first | refine qr2 ?_ | refine qr4 ?_)) | ((with_reducible apply tagW); first | refine qw1 ?_ | refine qw2 ?_ | refine qw3 ?_ | refine qw4 ?_ | refine qw5 ?_ | refine qw6 (fun hb => ?_) (fun hb => ?_) | refine qw7 ?_ | refine qw8 ?_ | refine qw9 ?_ | refine qw0 ?_) | refine thenQ_n ?_ | refine thenQ_e ?_ | refine thenQ_r ?_ | refine blockQ_n ?_ | refine blockQ_r ?_ | refine blockQ_hit ?_ | refine qb4 ?_ | refine qe ?_ | refine loopQ_e ?_ | refine loopQ_r ?_
      all_goals clear E
      exact ret_d rfl rfl
    | false =>
    have hh : headBad x = false := by
      simp only [headBad, Bool.or_eq_false_iff, decide_eq_false_iff_not]
      rw [decide_eq_false_iff_not] at hz
      refine ⟨⟨⟨⟨⟨?_, ?_⟩, ?_⟩, ?_⟩, ?_⟩, ?_⟩ <;> omega
    rw [e, hh]
    simp only [Bool.false_eq_true, if_false]
    have E := And.intro @hj1 (And.intro (fns_get hx) (And.intro @h2 (And.intro @h3 (And.intro @hw1 (And.intro @hw2 (And.intro @g7 (And.intro @g5 (@hz))))))))
    repeat' first | refine R_nil ?_ | ((with_reducible apply tagG); first | refine qg1 ?_ | refine qg2 ?_ | refine qg3 ?_ | refine qg4 ?_ | refine qg5 ?_ | refine qg6 (fun hb => ?_) (fun hb => ?_)) | ((with_reducible apply tagK); first | ((with_reducible apply tagD); first | refine qd5 (C37 _ _) ?_) | ((with_reducible apply tagR); first | refine qr5 (C37 _ _) ?_)) | ((with_reducible apply tagS); first | ((with_reducible apply tagD); first | refine qd1 ?_ | refine qd3 ?_) | ((with_reducible apply tagR); first | refine qr1 ?_ | refine qr3 ?_)) | ((with_reducible apply tagN); first | ((with_reducible apply tagD); first | refine qd2 ?_ | refine qd4 ?_) | ((with_reducible apply tagR); first | refine qr2 ?_ | refine qr4 ?_)) | ((with_reducible apply tagW); first | refine qw1 ?_ | refine qw2 ?_ | refine qw3 ?_ | refine qw4 ?_ | refine qw5 ?_ | refine qw6 (fun hb => ?_) (fun hb => ?_) | refine qw7 ?_ | refine qw8 ?_ | refine qw9 ?_ | refine qw0 ?_) | refine thenQ_n ?_ | refine thenQ_e ?_ | refine thenQ_r ?_ | refine blockQ_n ?_ | refine blockQ_r ?_ | refine blockQ_hit ?_ | refine qb4 ?_ | refine qe ?_ | refine loopQ_e ?_ | refine loopQ_r ?_
    all_goals clear E
    refine W_loopQ (fun k : Nat => [(171, dInt k), (170, dInt x.ins.length), (169, .d (.sl (inss x.ins))), (1, .ptr 1 0 0), (11, .ptr 11 0 0), (129, dInt j), (128, dInt c.funs.length), (127, .d (.sl (fns c.funs)))]) (fun _ => [(1, some (.box c.cells)), (11, some (.box x.cells))]) (fun k => x.ins.length - k) (fun k => k ≤ x.ins.length ∧ goodTo c x k) 0 ⟨by omega, fun j i hj => by omega⟩ qs fun k ⟨hk, he⟩ => ?_
    by_cases hkl : k < x.ins.length
    · obtain ⟨y, hy⟩ := get_ex hkl
      have hk1 : (k:Int) < x.ins.length := by omega
      have hC38 := C38 c x y k (k9 x hm y (List.mem_of_getElem? hy)) (by omega) (by omega) k10
      cases hg : insGood c x k y with
      | false =>
        rw [hg] at hC38
        have ha : allGood c x = false := by
          cases hq : allGood c x with
          | false => rfl
          | true => rw [allGood_iff] at hq; rw [hq k y hkl hy] at hg; cases hg
        rw [ha]
        have E := And.intro @hk1 ((inss_get hy))
        repeat' first | refine R_nil ?_ | ((with_reducible apply tagG); first | refine qg1 ?_ | refine qg2 ?_ | refine qg3 ?_ | refine qg4 ?_ | refine qg5 ?_ | refine qg6 (fun hb => ?_) (fun hb => ?_)) | ((with_reducible apply tagK); first | ((with_reducible apply tagD); first | refine qd5 (hC38) ?_) | ((with_reducible apply tagR); first | refine qr5 (hC38) ?_)) | ((with_reducible apply tagS); first | ((with_reducible apply tagD); first | refine qd1 ?_ | refine qd3 ?_) | ((with_reducible apply tagR); first | refine qr1 ?_ | refine qr3 ?_)) | ((with_reducible apply tagN); first | ((with_reducible apply tagD); first | refine qd2 ?_ | refine qd4 ?_) | ((with_reducible apply tagR); first | refine qr2 ?_ | refine qr4 ?_)) | ((with_reducible apply tagW); first | refine qw1 ?_ | refine qw2 ?_ | refine qw3 ?_ | refine qw4 ?_ | refine qw5 ?_ | refine qw6 (fun hb => ?_) (fun hb => ?_) | refine qw7 ?_ | refine qw8 ?_ | refine qw9 ?_ | refine qw0 ?_) | refine thenQ_n ?_ | refine thenQ_e ?_ | refine thenQ_r ?_ | refine blockQ_n ?_ | refine blockQ_r ?_ | refine blockQ_hit ?_ | refine qb4 ?_ | refine qe ?_ | refine loopQ_e ?_ | refine loopQ_r ?_
        all_goals clear E
        exact ret_d rfl rfl
      | true =>
        rw [hg] at hC38
        have E := And.intro @hk1 ((inss_get hy))
        repeat' first | refine R_nil ?_ | ((with_reducible apply tagG); first | refine qg1 ?_ | refine qg2 ?_ | refine qg3 ?_ | refine qg4 ?_ | refine qg5 ?_ | refine qg6 (fun hb => ?_) (fun hb => ?_)) | ((with_reducible apply tagK); first | ((with_reducible apply tagD); first | refine qd5 (hC38) ?_) | ((with_reducible apply tagR); first | refine qr5 (hC38) ?_)) | ((with_reducible apply tagS); first | ((with_reducible apply tagD); first | refine qd1 ?_ | refine qd3 ?_) | ((with_reducible apply tagR); first | refine qr1 ?_ | refine qr3 ?_)) | ((with_reducible apply tagN); first | ((with_reducible apply tagD); first | refine qd2 ?_ | refine qd4 ?_) | ((with_reducible apply tagR); first | refine qr2 ?_ | refine qr4 ?_)) | ((with_reducible apply tagW); first | refine qw1 ?_ | refine qw2 ?_ | refine qw3 ?_ | refine qw4 ?_ | refine qw5 ?_ | refine qw6 (fun hb => ?_) (fun hb => ?_) | refine qw7 ?_ | refine qw8 ?_ | refine qw9 ?_ | refine qw0 ?_) | refine thenQ_n ?_ | refine thenQ_e ?_ | refine thenQ_r ?_ | refine blockQ_n ?_ | refine blockQ_r ?_ | refine blockQ_hit ?_ | refine qb4 ?_ | refine qe ?_ | refine loopQ_e ?_ | refine loopQ_r ?_
        all_goals clear E
        refine loopQ_n (k + 1) (by omega) ⟨by omega, fun j i hj hi => ?_⟩ qs
        by_cases hjk : j = k
        · subst hjk; rw [hy] at hi; cases hi; exact hg
        · exact he j i (by omega) hi
    · have hk1 : ¬ (k:Int) < x.ins.length := by omega
      have ek : k = x.ins.length := by omega
      subst ek
      have ha : allGood c x = true := (allGood_iff c x).2 he
      have E := @hk1
      repeat' first | refine R_nil ?_ | ((with_reducible apply tagG); first | refine qg1 ?_ | refine qg2 ?_ | refine qg3 ?_ | refine qg4 ?_ | refine qg5 ?_ | refine qg6 (fun hb => ?_) (fun hb => ?_)) | ((with_reducible apply tagS); first | ((with_reducible apply tagD); first | refine qd1 ?_ | refine qd3 ?_) | ((with_reducible apply tagR); first | refine qr1 ?_ | refine qr3 ?_)) | ((with_reducible apply tagN); first | ((with_reducible apply tagD); first | refine qd2 ?_ | refine qd4 ?_) | ((with_reducible apply tagR); first | refine qr2 ?_ | refine qr4 ?_)) | ((with_reducible apply tagW); first | refine qw1 ?_ | refine qw2 ?_ | refine qw3 ?_ | refine qw4 ?_ | refine qw5 ?_ | refine qw6 (fun hb => ?_) (fun hb => ?_) | refine qw7 ?_ | refine qw8 ?_ | refine qw9 ?_ | refine qw0 ?_) | refine thenQ_n ?_ | refine thenQ_e ?_ | refine thenQ_r ?_ | refine blockQ_n ?_ | refine blockQ_r ?_ | refine blockQ_hit ?_ | refine qb4 ?_ | refine qe ?_ | refine loopQ_e ?_ | refine loopQ_r ?_
      all_goals clear E
      refine loopQ_n (j + 1) (by omega) ⟨by omega, ?_⟩ qs
      rw [ha]; rfl
  have hj1 : ¬ (j:Int) < c.funs.length := by omega
  have E := @hj1
  repeat' first | refine R_nil ?_ | ((with_reducible apply tagG); first | refine qg1 ?_ | refine qg2 ?_ | refine qg3 ?_ | refine qg4 ?_ | refine qg5 ?_ | refine qg6 (fun hb => ?_) (fun hb => ?_)) | ((with_reducible apply tagS); first | ((with_reducible apply tagD); first | refine qd1 ?_ | refine qd3 ?_) | ((with_reducible apply tagR); first | refine qr1 ?_ | refine qr3 ?_)) | ((with_reducible apply tagN); first | ((with_reducible apply tagD); first | refine qd2 ?_ | refine qd4 ?_) | ((with_reducible apply tagR); first | refine qr2 ?_ | refine qr4 ?_)) | ((with_reducible apply tagW); first | refine qw1 ?_ | refine qw2 ?_ | refine qw3 ?_ | refine qw4 ?_ | refine qw5 ?_ | refine qw6 (fun hb => ?_) (fun hb => ?_) | refine qw7 ?_ | refine qw8 ?_ | refine qw9 ?_ | refine qw0 ?_) | refine thenQ_n ?_ | refine thenQ_e ?_ | refine thenQ_r ?_ | refine blockQ_n ?_ | refine blockQ_r ?_ | refine blockQ_hit ?_ | refine qb4 ?_ | refine qe ?_ | refine loopQ_e ?_ | refine loopQ_r ?_
  all_goals clear E
  exact ret_d rfl (by rw [hj2, drop_none hjl]; rfl)
end Go.Pw
