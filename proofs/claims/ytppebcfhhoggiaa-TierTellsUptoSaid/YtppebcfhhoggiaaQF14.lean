/- Functions of the law: the same function. -/
import Derived.Test.YtppebcfhhoggiaaQF3
set_option linter.unusedVariables false
set_option linter.unusedSimpArgs false
namespace Go.Pw
open Go Go.Proofs
attribute [local irreducible] runL W endD thenQ blockQ loopQ
set_option maxRecDepth 8000
set_option maxHeartbeats 2000000
def sameFnB (f g : Fn) : Bool := decide (f.name = g.name) && (decide (f.params = g.params) && (decide (f.holds = g.holds) && (decide (f.regs = g.regs) && (decide (f.ins.length = g.ins.length) && (f.ins.zip g.ins).all fun p => sameIns p.1 p.2))))
theorem C20 (f g : Fn) (hf : Sm f.ins) (hg : Sm g.ins) (hf2 : ∀ x ∈ f.ins, Sm x.args) (hg2 : ∀ x ∈ g.ins, Sm x.args) : C Try.prog 20 [f.av, g.av] [] (dBool (sameFnB f g)) [] [] := by
  refine C_intro T_ok (rs := [.tmp 4]) Try.func20 rfl rfl rfl (Nat.le_of_ble_eq_true rfl) (Nat.le_of_ble_eq_true rfl) rfl ⟨rfl, rfl⟩ rfl fun cx hn => ?_
  have hn : cx.n = 38 := hn
  have Y := And.intro T3 (And.intro T9 (And.intro T23 (And.intro T38 (And.intro T40 (And.intro T60 (T101))))))
  simp only [enumA, enumO, Nat.reduceAdd]
  repeat' first | refine R_nil ?_ | ((with_reducible apply tagG); first | refine qg1 ?_ | refine qg2 ?_ | refine qg3 ?_ | refine qg4 ?_ | refine qg5 ?_ | refine qg6 (fun hb => ?_) (fun hb => ?_)) | ((with_reducible apply tagK); first | ((with_reducible apply tagD); first | refine qd5 (C49 f.ins g.ins hf hg hf2 hg2) ?_) | ((with_reducible apply tagR); first | refine qr5 (C49 f.ins g.ins hf hg hf2 hg2) ?_)) | ((with_reducible apply tagS); first | ((with_reducible apply tagD); first | refine qd1 ?_ | refine qd3 ?_) | ((with_reducible apply tagR); first | refine qr1 ?_ | refine qr3 ?_)) | ((with_reducible apply tagN); first | ((with_reducible apply tagD); first | refine qd2 ?_ | refine qd4 ?_) | ((with_reducible apply tagR); first | refine qr2 ?_ | refine qr4 ?_)) | ((with_reducible apply tagW); first | refine qw1 ?_ | refine qw2 ?_ | refine qw3 ?_ | refine qw4 ?_ | refine qw5 ?_ | refine qw6 (fun hb => ?_) (fun hb => ?_) | refine qw7 ?_ | refine qw8 ?_ | refine qw9 ?_ | refine qw0 ?_) | refine thenQ_n ?_ | refine thenQ_e ?_ | refine thenQ_r ?_ | refine blockQ_n ?_ | refine blockQ_r ?_ | refine blockQ_hit ?_ | refine qb4 ?_ | refine qe ?_ | refine loopQ_e ?_ | refine loopQ_r ?_
  all_goals exact ret_d rfl (by simp_all [sameFnB])
end Go.Pw
