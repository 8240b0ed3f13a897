/- Functions: what is wrong with an instruction (5). -/
import Derived.Test.YtppebcfhhoggiaaQF12
import Derived.Test.YtppebcfhhoggiaaQF11
set_option linter.unusedVariables false
set_option linter.unusedSimpArgs false
namespace Go.Pw
open Go Go.Proofs
attribute [local irreducible] runL W endD thenQ blockQ loopQ
set_option maxRecDepth 8000
set_option maxHeartbeats 4000000
theorem C71_5 (c : Cod) (f : Fn) (i : Ins) (hs : Sm i.args) (h : i.op = 5) : C Try.prog 71 [c.av, f.av, i.av] [] (dInt (if insOk c i then 0 else 3)) [] [] := by
  have ne := neq_of h
  have e : decide (i.op = 5) = true := by simp [h]
  have n9 : ((9 : Nat) : Int) = 9 := rfl
  have n8 : (9 : Int) - 1 = 8 := rfl
  refine C_intro T_ok (rs := [.tmp 6]) Try.func71 rfl rfl rfl (Nat.le_of_ble_eq_true rfl) (Nat.le_of_ble_eq_true rfl) rfl ⟨rfl, rfl⟩ rfl fun cx hn => ?_
  have hn : cx.n = 206 := hn
  have Y := And.intro T3 (And.intro T4 (And.intro T9 (And.intro T22 (And.intro T23 (And.intro T24 (And.intro T25 (And.intro T26 (And.intro T27 (And.intro T28 (And.intro T30 (And.intro T38 (And.intro T40 (And.intro T60 (And.intro T61 (And.intro T63 (And.intro T67 (And.intro T75 (T77))))))))))))))))))
  simp only [enumA, enumO, Nat.reduceAdd]
  have E := And.intro @e (And.intro @ne (And.intro @n9 (@n8)))
  repeat' first | refine R_nil ?_ | ((with_reducible apply tagG); first | refine qg1 ?_ | refine qg2 ?_ | refine qg3 ?_ | refine qg4 ?_ | refine qg5 ?_ | refine qg6 (fun hb => ?_) (fun hb => ?_)) | ((with_reducible apply tagK); first | ((with_reducible apply tagD); first | refine qd5 (C73 _ _) ?_ | refine qd6 [] (C74) ?_) | ((with_reducible apply tagR); first | refine qr5 (C73 _ _) ?_ | refine qr6 [] (C74) ?_)) | ((with_reducible apply tagS); first | ((with_reducible apply tagD); first | refine qd1 ?_ | refine qd3 ?_) | ((with_reducible apply tagR); first | refine qr1 ?_ | refine qr3 ?_)) | ((with_reducible apply tagN); first | ((with_reducible apply tagD); first | refine qd2 ?_ | refine qd4 ?_) | ((with_reducible apply tagR); first | refine qr2 ?_ | refine qr4 ?_)) | ((with_reducible apply tagW); first | refine qw1 ?_ | refine qw2 ?_ | refine qw3 ?_ | refine qw4 ?_ | refine qw5 ?_ | refine qw6 (fun hb => ?_) (fun hb => ?_) | refine qw7 ?_ | refine qw8 ?_ | refine qw9 ?_ | refine qw0 ?_) | refine thenQ_n ?_ | refine thenQ_e ?_ | refine thenQ_r ?_ | refine blockQ_n ?_ | refine blockQ_r ?_ | refine blockQ_hit ?_ | refine qb4 ?_ | refine qe ?_ | refine loopQ_e ?_ | refine loopQ_r ?_
  all_goals clear E
  all_goals exact ret_d rfl (by first | (simp_all [insOk, wi]; done) | (simp_all [insOk, wi]; omega) | (simp_all [insOk, wi]; intros; exfalso; omega))
theorem C71 (c : Cod) (f : Fn) (i : Ins) (hs : Sm i.args) (hz : ∀ ps ∈ c.pats, psizes ps ≤ 1099511627776) : C Try.prog 71 [c.av, f.av, i.av] [] (dInt (if insOk c i then 0 else 3)) [] [] := by
  by_cases h1 : i.op = 1
  · exact C71_1 c f i hs h1
  by_cases h5 : i.op = 5
  · exact C71_5 c f i hs h5
  by_cases h6 : i.op = 6
  · exact C71_6 c f i hs h6
  by_cases h7 : i.op = 7
  · exact C71_7 c f i hs h7
  by_cases h8 : i.op = 8
  · exact C71_8 c f i hs h8
  by_cases h10 : i.op = 10
  · exact C71_10 c f i hs h10
  by_cases h17 : i.op = 17
  · exact C71_17 c f i hs h17
  by_cases h27 : i.op = 27
  · exact C71_27 c f i hs h27
  by_cases h12 : i.op = 12
  · exact C71_12 c f i hs h12
  by_cases h11 : i.op = 11
  · exact C71_11 c f i hs hz h11
  by_cases h16 : i.op = 16
  · exact C71_16 c f i hs hz h16
  exact C71_x c f i hs h1 h5 h6 h7 h8 h10 h17 h27 h12 h11 h16
end Go.Pw
