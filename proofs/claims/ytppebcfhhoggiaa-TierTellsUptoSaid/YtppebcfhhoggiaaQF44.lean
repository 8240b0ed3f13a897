/- Functions of the law: jumps that are followed. -/
import Derived.Test.YtppebcfhhoggiaaQF24
set_option linter.unusedVariables false
set_option linter.unusedSimpArgs false
namespace Go.Pw
open Go Go.Proofs
attribute [local irreducible] runL W endD thenQ blockQ loopQ
set_option maxRecDepth 8000
set_option maxHeartbeats 8000000
theorem jumps_of {f : Fn} (hr : roundF f.ins = false) {pc : Int} (h : wi pc f.ins.length = true) : jumps f.ins (f.ins.length + 1) pc = false := by
  simp only [wi, Bool.and_eq_true, decide_eq_true_eq] at h
  have := List.any_eq_false.1 hr pc.toNat (List.mem_range.2 (by omega))
  rw [show ((pc.toNat : Nat) : Int) = pc by omega] at this
  simpa using this
theorem C47 (pc : Int) (f : Fn) (b : Bool) (at_ : List Int) (z : Int) (hin : inside f.ins) (hr : roundF f.ins = false) (hw : wi pc f.ins.length = true) (hz : at_[(toE f pc).toNat]? = some z) :
    C Try.prog 47 [dInt pc, .ptr 1000 0 0, .ptr 1001 0 0, .ptr 1002 0 0] [.box f.cells, .box [dBool b], .box [.d (.sl (ints at_))]] (dInt z) [.box f.cells, .box [dBool (b || moved f pc)], .box [.d (.sl (ints at_))]] [] := by
  have hj := jumps_of hr hw
  simp only [wi, Bool.and_eq_true, decide_eq_true_eq] at hw
  obtain ⟨q0, q1⟩ := hw
  obtain ⟨y, hy⟩ := get_ex (show pc.toNat < f.ins.length by omega)
  refine C_intro T_ok (rs := [.tmp 5]) Try.func47 rfl rfl rfl (Nat.le_of_ble_eq_true rfl) (Nat.le_of_ble_eq_true rfl) rfl ⟨rfl, rfl⟩ rfl fun cx hn => ?_
  have hn : cx.n = 23 := hn
  have Y := And.intro T3 (And.intro T4 (And.intro T9 (And.intro T23 (And.intro T38 (And.intro T40 (T60))))))
  simp only [enumA, enumO, Nat.reduceAdd]
  repeat' first | refine R_nil ?_ | ((with_reducible apply tagG); first | refine qg1 ?_ | refine qg2 ?_ | refine qg3 ?_ | refine qg4 ?_ | refine qg5 ?_ | refine qg6 (fun hb => ?_) (fun hb => ?_)) | ((with_reducible apply tagS); first | ((with_reducible apply tagD); first | refine qd1 ?_ | refine qd3 ?_) | ((with_reducible apply tagR); first | refine qr1 ?_ | refine qr3 ?_)) | ((with_reducible apply tagN); first | ((with_reducible apply tagD); first | refine qd2 ?_ | refine qd4 ?_) | ((with_reducible apply tagR); first | refine qr2 ?_ | refine qr4 ?_)) | ((with_reducible apply tagW); first | refine qw1 ?_ | refine qw2 ?_ | refine qw3 ?_ | refine qw4 ?_ | refine qw5 ?_ | refine qw6 (fun hb => ?_) (fun hb => ?_) | refine qw7 ?_ | refine qw8 ?_ | refine qw9 ?_ | refine qw0 ?_) | refine thenQ_n ?_ | refine thenQ_e ?_ | refine thenQ_r ?_ | refine blockQ_n ?_ | refine blockQ_r ?_ | refine blockQ_hit ?_ | refine qb4 ?_ | refine qe ?_ | refine loopQ_e ?_ | refine loopQ_r ?_
  refine W_loopQ (α := Nat × Int × Bool) (fun x => [(0, dInt x.2.1), (1, .ptr 1000 0 0), (2, .ptr 1001 0 0), (3, .ptr 1002 0 0)]) (fun x => [(1000, some (.box f.cells)), (1001, some (.box [dBool x.2.2])), (1002, some (.box [.d (.sl (ints at_))]))]) (fun x => f.ins.length - x.1) (fun x => x.1 ≤ f.ins.length ∧ 0 ≤ x.2.1 ∧ x.2.1 < f.ins.length ∧ toE f pc = endAt f.ins (f.ins.length - x.1) x.2.1 ∧ jumps f.ins (f.ins.length + 1 - x.1) x.2.1 = false ∧ x.2.2 = (b || decide (x.1 ≠ 0)) ∧ (x.1 = 0 → x.2.1 = pc) ∧ (x.1 ≠ 0 → y.op = 3)) (0, pc, b) ⟨Nat.zero_le _, q0, q1, rfl, hj, by simp, fun _ => rfl, fun h => absurd rfl h⟩ qs fun ⟨n, p, bb⟩ ⟨g1, g2, g3, g4, g5, g6, g7, g8⟩ => ?_
  dsimp only at g1 g2 g3 g4 g5 g6 g7 g8 ⊢
  obtain ⟨x, hx⟩ := get_ex (show p.toNat < f.ins.length by omega)
  obtain ⟨m, hm⟩ : ∃ m, f.ins.length + 1 - n = m + 1 := ⟨f.ins.length - n, by omega⟩
  rw [hm] at g5
  have gj : jumps f.ins (m + 1) p = (decide (x.op = 3) && jumps f.ins m x.a) := by simp [jumps, hx]
  rw [gj] at g5
  by_cases h3 : x.op = 3
  · have e3 : decide (x.op = 3) = true := by simp [h3]
    obtain ⟨a1, a2⟩ := hin x (List.mem_of_getElem? hx) h3
    rw [e3, Bool.true_and] at g5
    obtain ⟨m', rfl⟩ : ∃ m', m = m' + 1 := by
      cases m with
      | zero => simp [jumps] at g5
      | succ m' => exact ⟨m', rfl⟩
    have em : f.ins.length - n = m' + 1 := by omega
    have em' : f.ins.length - (n + 1) = m' := by omega
    have E := And.intro @e3 ((inss_get hx))
    repeat' first | refine R_nil ?_ | ((with_reducible apply tagG); first | refine qg1 ?_ | refine qg2 ?_ | refine qg3 ?_ | refine qg4 ?_ | refine qg5 ?_ | refine qg6 (fun hb => ?_) (fun hb => ?_)) | ((with_reducible apply tagS); first | ((with_reducible apply tagD); first | refine qd1 ?_ | refine qd3 ?_) | ((with_reducible apply tagR); first | refine qr1 ?_ | refine qr3 ?_)) | ((with_reducible apply tagN); first | ((with_reducible apply tagD); first | refine qd2 ?_ | refine qd4 ?_) | ((with_reducible apply tagR); first | refine qr2 ?_ | refine qr4 ?_)) | ((with_reducible apply tagW); first | refine qw1 ?_ | refine qw2 ?_ | refine qw3 ?_ | refine qw4 ?_ | refine qw5 ?_ | refine qw6 (fun hb => ?_) (fun hb => ?_) | refine qw7 ?_ | refine qw8 ?_ | refine qw9 ?_ | refine qw0 ?_) | refine thenQ_n ?_ | refine thenQ_e ?_ | refine thenQ_r ?_ | refine blockQ_n ?_ | refine blockQ_r ?_ | refine blockQ_hit ?_ | refine qb4 ?_ | refine qe ?_ | refine loopQ_e ?_ | refine loopQ_r ?_
    all_goals clear E
    refine loopQ_n (n + 1, x.a, true) (by dsimp only; omega) ⟨by dsimp only; omega, a1, a2, ?_, ?_, by simp, fun h => by simp at h, fun _ => ?_⟩ qs
    · dsimp only
      rw [g4, em, em']
      simp only [endAt]
      rw [if_neg (by simp; omega), hx]
      simp [h3]
    · dsimp only
      rw [show f.ins.length + 1 - (n + 1) = m' + 1 by omega]; exact g5
    · by_cases hn0 : n = 0
      · have := g7 hn0
        subst this
        rw [hx] at hy; cases hy; exact h3
      · exact g8 hn0
  · have e3 : decide (x.op = 3) = false := by simp [h3]
    have hE : toE f pc = p := by
      rw [g4]
      cases f.ins.length - n with
      | zero => rfl
      | succ k =>
        simp only [endAt]
        rw [if_neg (by simp; omega), hx]
        simp [h3]
    rw [hE] at hz
    have hlt : p < at_.length := by have := (List.getElem?_eq_some_iff.1 hz).1; omega
    have hb' : (b || moved f pc) = bb := by
      rw [g6]
      unfold moved
      rw [hE]
      by_cases hn0 : n = 0
      · simp [g7 hn0, hn0]
      · have : p ≠ pc := by
          intro e
          subst e
          rw [hx] at hy; cases hy
          exact h3 (g8 hn0)
        simp [this, hn0]
    rw [hb']
    have E := And.intro @e3 (And.intro (inss_get hx) (And.intro (ints_get hz) (@hlt)))
    repeat' first | refine R_nil ?_ | ((with_reducible apply tagG); first | refine qg1 ?_ | refine qg2 ?_ | refine qg3 ?_ | refine qg4 ?_ | refine qg5 ?_ | refine qg6 (fun hb => ?_) (fun hb => ?_)) | ((with_reducible apply tagS); first | ((with_reducible apply tagD); first | refine qd1 ?_ | refine qd3 ?_) | ((with_reducible apply tagR); first | refine qr1 ?_ | refine qr3 ?_)) | ((with_reducible apply tagN); first | ((with_reducible apply tagD); first | refine qd2 ?_ | refine qd4 ?_) | ((with_reducible apply tagR); first | refine qr2 ?_ | refine qr4 ?_)) | ((with_reducible apply tagW); first | refine qw1 ?_ | refine qw2 ?_ | refine qw3 ?_ | refine qw4 ?_ | refine qw5 ?_ | refine qw6 (fun hb => ?_) (fun hb => ?_) | refine qw7 ?_ | refine qw8 ?_ | refine qw9 ?_ | refine qw0 ?_) | refine thenQ_n ?_ | refine thenQ_e ?_ | refine thenQ_r ?_ | refine blockQ_n ?_ | refine blockQ_r ?_ | refine blockQ_hit ?_ | refine qb4 ?_ | refine qe ?_ | refine loopQ_e ?_ | refine loopQ_r ?_
    all_goals clear E
    exact ret_dM rfl rfl rfl rfl
end Go.Pw
