/- Functions of the law: the nodes of a pattern. -/
import Derived.Test.YtppebcfhhoggiaaQF7
set_option linter.unusedVariables false
set_option linter.unusedSimpArgs false
namespace Go.Pw
open Go Go.Proofs
attribute [local irreducible] runL W endD thenQ blockQ loopQ
set_option maxRecDepth 4000
set_option maxHeartbeats 1000000
mutual
def nodesOf : Pat → Int → Int
  | .mk _ _ _ l, m => if l.length = 0 then 1 else if m < 1 then 1000 else 1 + nodesL l (m - 1)
def nodesL : List Pat → Int → Int
  | [], _ => 0
  | p :: l, m => nodesOf p m + nodesL l m
end
theorem nodesOf_eq (p : Pat) (m : Int) : nodesOf p m = if p.args.length = 0 then 1 else if m < 1 then 1000 else 1 + nodesL p.args (m - 1) := by cases p; rw [nodesOf]; rfl
theorem nodesL_app (m : Int) : ∀ l k : List Pat, nodesL (l ++ k) m = nodesL l m + nodesL k m
  | [], k => by rw [nodesL]; simp
  | p :: l, k => by rw [List.cons_append, nodesL, nodesL, nodesL_app m l k]; omega
mutual
theorem nodes_le : ∀ (p : Pat) (m : Int), 0 ≤ nodesOf p m ∧ nodesOf p m ≤ 1000 * psize p
  | .mk k n t l, m => by
    have := nodesL_le l (m - 1)
    rw [nodesOf, psize]
    split
    · omega
    · split <;> omega
theorem nodesL_le : ∀ (l : List Pat) (m : Int), 0 ≤ nodesL l m ∧ nodesL l m ≤ 1000 * psizes l
  | [], m => by rw [nodesL, psizes]; simp
  | p :: l, m => by
    have h1 := nodes_le p m
    have h2 := nodesL_le l m
    rw [nodesL, psizes]; omega
end
theorem C21n : ∀ (n : Nat) (p : Pat) (m : Int), psize p ≤ n → n ≤ 1099511627776 → -1099511627776 ≤ m → m ≤ 1099511627776 → C Try.prog 21 [p.av, dInt m] [] (dInt (nodesOf p m)) [] []
  | 0, p, _, h, _, _, _ => by rw [psize_eq] at h; omega
  | n + 1, p, m, h, hn40, hm1, hm2 => by
    have hps := psize_eq p
    have hlen := psizes_len p.args
    refine C_intro T_ok (rs := [.tmp 4]) Try.func21 rfl rfl rfl (Nat.le_of_ble_eq_true rfl) (Nat.le_of_ble_eq_true rfl) rfl ⟨rfl, rfl⟩ rfl fun cx hn => ?_
    have hn : cx.n = 25 := hn
    have Y := And.intro T3 (And.intro T9 (And.intro T61 (T63)))
    simp only [enumA, enumO, Nat.reduceAdd]
    repeat' first | refine R_nil ?_ | ((with_reducible apply tagG); first | refine qg1 ?_ | refine qg2 ?_ | refine qg3 ?_ | refine qg4 ?_ | refine qg5 ?_ | refine qg6 (fun hb => ?_) (fun hb => ?_)) | ((with_reducible apply tagS); first | ((with_reducible apply tagD); first | refine qd1 ?_ | refine qd3 ?_) | ((with_reducible apply tagR); first | refine qr1 ?_ | refine qr3 ?_)) | ((with_reducible apply tagN); first | ((with_reducible apply tagD); first | refine qd2 ?_ | refine qd4 ?_) | ((with_reducible apply tagR); first | refine qr2 ?_ | refine qr4 ?_)) | ((with_reducible apply tagW); first | refine qw1 ?_ | refine qw2 ?_ | refine qw3 ?_ | refine qw4 ?_ | refine qw5 ?_ | refine qw6 (fun hb => ?_) (fun hb => ?_) | refine qw7 ?_ | refine qw8 ?_ | refine qw9 ?_ | refine qw0 ?_) | refine thenQ_n ?_ | refine thenQ_e ?_ | refine thenQ_r ?_ | refine blockQ_n ?_ | refine blockQ_r ?_ | refine blockQ_hit ?_ | refine qb4 ?_ | refine qe ?_ | refine loopQ_e ?_ | refine loopQ_r ?_
    refine W_loopQ (fun k : Nat => [(11, dInt k), (10, dInt p.args.length), (9, .d (.sl (patsD p.args))), (1, dInt m), (5, dInt (1 + nodesL (p.args.take k) (m - 1)))]) (fun _ => []) (fun k => p.args.length - k) (fun k => k ≤ p.args.length ∧ (0 < k → ¬ m < 1)) 0 ⟨by omega, by omega⟩ qs fun k ⟨hk, hk1⟩ => ?_
    by_cases h : k < p.args.length
    · obtain ⟨x, hx⟩ := get_ex h
      have h1 : (k:Int) < p.args.length := by omega
      have hxs := psizes_get hx
      by_cases hm : m < 1
      · have E := And.intro @h1 (And.intro @hm ((patsD_get hx)))
        repeat' first | refine R_nil ?_ | ((with_reducible apply tagG); first | refine qg1 ?_ | refine qg2 ?_ | refine qg3 ?_ | refine qg4 ?_ | refine qg5 ?_ | refine qg6 (fun hb => ?_) (fun hb => ?_)) | ((with_reducible apply tagS); first | ((with_reducible apply tagD); first | refine qd1 ?_ | refine qd3 ?_) | ((with_reducible apply tagR); first | refine qr1 ?_ | refine qr3 ?_)) | ((with_reducible apply tagN); first | ((with_reducible apply tagD); first | refine qd2 ?_ | refine qd4 ?_) | ((with_reducible apply tagR); first | refine qr2 ?_ | refine qr4 ?_)) | ((with_reducible apply tagW); first | refine qw1 ?_ | refine qw2 ?_ | refine qw3 ?_ | refine qw4 ?_ | refine qw5 ?_ | refine qw6 (fun hb => ?_) (fun hb => ?_) | refine qw7 ?_ | refine qw8 ?_ | refine qw9 ?_ | refine qw0 ?_) | refine thenQ_n ?_ | refine thenQ_e ?_ | refine thenQ_r ?_ | refine blockQ_n ?_ | refine blockQ_r ?_ | refine blockQ_hit ?_ | refine qb4 ?_ | refine qe ?_ | refine loopQ_e ?_ | refine loopQ_r ?_
        all_goals clear E
        exact ret_d rfl (by rw [nodesOf_eq, if_neg (by omega), if_pos hm])
      · have hb1 := nodesL_le (p.args.take k) (m - 1)
        have hb2 := nodes_le x (m - 1)
        have e1 : nodesL (p.args.take (k + 1)) (m - 1) = nodesL (p.args.take k) (m - 1) + nodesOf x (m - 1) := by
          rw [List.take_add_one, hx, nodesL_app]; simp [nodesL]
        have E := And.intro @h1 (And.intro @hm ((patsD_get hx)))
        repeat' first | refine R_nil ?_ | ((with_reducible apply tagG); first | refine qg1 ?_ | refine qg2 ?_ | refine qg3 ?_ | refine qg4 ?_ | refine qg5 ?_ | refine qg6 (fun hb => ?_) (fun hb => ?_)) | ((with_reducible apply tagK); first | ((with_reducible apply tagD); first | refine qd5 (C21n n x (m - 1) (by omega) (by omega) (by omega) (by omega)) ?_) | ((with_reducible apply tagR); first | refine qr5 (C21n n x (m - 1) (by omega) (by omega) (by omega) (by omega)) ?_)) | ((with_reducible apply tagS); first | ((with_reducible apply tagD); first | refine qd1 ?_ | refine qd3 ?_) | ((with_reducible apply tagR); first | refine qr1 ?_ | refine qr3 ?_)) | ((with_reducible apply tagN); first | ((with_reducible apply tagD); first | refine qd2 ?_ | refine qd4 ?_) | ((with_reducible apply tagR); first | refine qr2 ?_ | refine qr4 ?_)) | ((with_reducible apply tagW); first | refine qw1 ?_ | refine qw2 ?_ | refine qw3 ?_ | refine qw4 ?_ | refine qw5 ?_ | refine qw6 (fun hb => ?_) (fun hb => ?_) | refine qw7 ?_ | refine qw8 ?_ | refine qw9 ?_ | refine qw0 ?_) | refine thenQ_n ?_ | refine thenQ_e ?_ | refine thenQ_r ?_ | refine blockQ_n ?_ | refine blockQ_r ?_ | refine blockQ_hit ?_ | refine qb4 ?_ | refine qe ?_ | refine loopQ_e ?_ | refine loopQ_r ?_
        all_goals clear E
        refine loopQ_n (k + 1) (by omega) ⟨by omega, fun _ => hm⟩ (by rw [e1, ← Int.add_assoc]; exact qs)
    · have h1 : ¬ (k:Int) < p.args.length := by omega
      have E := @h1
      repeat' first | refine R_nil ?_ | ((with_reducible apply tagG); first | refine qg1 ?_ | refine qg2 ?_ | refine qg3 ?_ | refine qg4 ?_ | refine qg5 ?_ | refine qg6 (fun hb => ?_) (fun hb => ?_)) | ((with_reducible apply tagS); first | ((with_reducible apply tagD); first | refine qd1 ?_ | refine qd3 ?_) | ((with_reducible apply tagR); first | refine qr1 ?_ | refine qr3 ?_)) | ((with_reducible apply tagN); first | ((with_reducible apply tagD); first | refine qd2 ?_ | refine qd4 ?_) | ((with_reducible apply tagR); first | refine qr2 ?_ | refine qr4 ?_)) | ((with_reducible apply tagW); first | refine qw1 ?_ | refine qw2 ?_ | refine qw3 ?_ | refine qw4 ?_ | refine qw5 ?_ | refine qw6 (fun hb => ?_) (fun hb => ?_) | refine qw7 ?_ | refine qw8 ?_ | refine qw9 ?_ | refine qw0 ?_) | refine thenQ_n ?_ | refine thenQ_e ?_ | refine thenQ_r ?_ | refine blockQ_n ?_ | refine blockQ_r ?_ | refine blockQ_hit ?_ | refine qb4 ?_ | refine qe ?_ | refine loopQ_e ?_ | refine loopQ_r ?_
      all_goals clear E
      refine ret_d rfl ?_
      rw [nodesOf_eq, List.take_of_length_le (by omega)]
      by_cases h0 : p.args.length = 0
      · rw [if_pos h0, List.eq_nil_of_length_eq_zero h0, nodesL]; rfl
      · rw [if_neg h0, if_neg (hk1 (by omega))]
end Go.Pw
