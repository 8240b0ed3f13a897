/- Functions: names that a pattern binds. -/
import Derived.Test.YtppebcfhhoggiaaQF6
set_option linter.unusedVariables false
set_option linter.unusedSimpArgs false
namespace Go.Pw
open Go Go.Proofs
attribute [local irreducible] runL W endD thenQ blockQ loopQ
set_option maxRecDepth 4000
set_option maxHeartbeats 1000000
mutual
def psize : Pat → Nat
  | .mk _ _ _ l => 1 + psizes l
def psizes : List Pat → Nat
  | [] => 0
  | p :: l => psize p + psizes l
end
mutual
def bindsOf : Pat → Int
  | .mk k _ _ l => if k = 2 then 1 else if k = 6 then bindsL l else 0
def bindsL : List Pat → Int
  | [] => 0
  | p :: l => bindsOf p + bindsL l
end
theorem psize_eq (p : Pat) : psize p = 1 + psizes p.args := by cases p; rw [psize]; rfl
theorem bindsOf_eq (p : Pat) : bindsOf p = if p.kind = 2 then 1 else if p.kind = 6 then bindsL p.args else 0 := by cases p; rw [bindsOf]; rfl
theorem psizes_app : ∀ l m : List Pat, psizes (l ++ m) = psizes l + psizes m
  | [], m => by rw [psizes]; simp
  | p :: l, m => by rw [List.cons_append, psizes, psizes, psizes_app l m]; omega
theorem bindsL_app : ∀ l m : List Pat, bindsL (l ++ m) = bindsL l + bindsL m
  | [], m => by rw [bindsL]; simp
  | p :: l, m => by rw [List.cons_append, bindsL, bindsL, bindsL_app l m]; omega
theorem psizes_len : ∀ l : List Pat, l.length ≤ psizes l
  | [] => by simp
  | p :: l => by
    rw [psizes, psize_eq, List.length_cons]
    have := psizes_len l; omega
mutual
theorem binds_le : ∀ p : Pat, 0 ≤ bindsOf p ∧ bindsOf p ≤ psize p
  | .mk k n t l => by
    have := bindsL_le l
    rw [bindsOf, psize]
    split
    · omega
    · split <;> omega
theorem bindsL_le : ∀ l : List Pat, 0 ≤ bindsL l ∧ bindsL l ≤ psizes l
  | [] => by rw [bindsL, psizes]; simp
  | p :: l => by
    have h1 := binds_le p
    have h2 := bindsL_le l
    rw [bindsL, psizes]; omega
end
theorem psizes_get {l : List Pat} {k : Nat} {x : Pat} (hx : l[k]? = some x) : psizes (l.take k) + psize x ≤ psizes l := by
  have e : l = l.take k ++ x :: l.drop (k + 1) := by rw [← drop_some hx, List.take_append_drop]
  conv => rhs; rw [e]
  rw [psizes_app, psizes]; omega
theorem C76n : ∀ (n : Nat) (p : Pat), psize p ≤ n → n ≤ 1099511627776 → C Try.prog 76 [p.av] [] (dInt (bindsOf p)) [] []
  | 0, p, h, _ => by rw [psize_eq] at h; omega
  | n + 1, p, h, hn40 => by
    have hps := psize_eq p
    have hlen := psizes_len p.args
    by_cases h2 : p.kind = 2
    · refine C_intro T_ok (rs := [.tmp 2]) Try.func76 rfl rfl rfl (Nat.le_of_ble_eq_true rfl) (Nat.le_of_ble_eq_true rfl) rfl ⟨rfl, rfl⟩ rfl fun cx hn => ?_
      have hn : cx.n = 25 := hn
      have Y := And.intro T3 (And.intro T9 (And.intro T61 (T63)))
      simp only [enumA, enumO, Nat.reduceAdd]
      have E := @h2
      repeat' first | refine R_nil ?_ | ((with_reducible apply tagG); first | refine qg1 ?_ | refine qg2 ?_ | refine qg3 ?_ | refine qg4 ?_ | refine qg5 ?_ | refine qg6 (fun hb => ?_) (fun hb => ?_)) | ((with_reducible apply tagS); first | ((with_reducible apply tagD); first | refine qd1 ?_ | refine qd3 ?_) | ((with_reducible apply tagR); first | refine qr1 ?_ | refine qr3 ?_)) | ((with_reducible apply tagN); first | ((with_reducible apply tagD); first | refine qd2 ?_ | refine qd4 ?_) | ((with_reducible apply tagR); first | refine qr2 ?_ | refine qr4 ?_)) | ((with_reducible apply tagW); first | refine qw1 ?_ | refine qw2 ?_ | refine qw3 ?_ | refine qw4 ?_ | refine qw5 ?_ | refine qw6 (fun hb => ?_) (fun hb => ?_) | refine qw7 ?_ | refine qw8 ?_ | refine qw9 ?_ | refine qw0 ?_) | refine thenQ_n ?_ | refine thenQ_e ?_ | refine thenQ_r ?_ | refine blockQ_n ?_ | refine blockQ_r ?_ | refine blockQ_hit ?_ | refine qb4 ?_ | refine qe ?_ | refine loopQ_e ?_ | refine loopQ_r ?_
      all_goals clear E
      exact ret_d rfl (by rw [bindsOf_eq, if_pos h2])
    by_cases h6 : p.kind = 6
    · have e6 : decide (p.kind = 6) = true := by simp [h6]
      have e2 : decide (p.kind = 2) = false := by simp [h2]
      refine C_intro T_ok (rs := [.tmp 2]) Try.func76 rfl rfl rfl (Nat.le_of_ble_eq_true rfl) (Nat.le_of_ble_eq_true rfl) rfl ⟨rfl, rfl⟩ rfl fun cx hn => ?_
      have hn : cx.n = 25 := hn
      have Y := And.intro T3 (And.intro T9 (And.intro T61 (T63)))
      simp only [enumA, enumO, Nat.reduceAdd]
      have E := And.intro @e6 (@e2)
      repeat' first | refine R_nil ?_ | ((with_reducible apply tagG); first | refine qg1 ?_ | refine qg2 ?_ | refine qg3 ?_ | refine qg4 ?_ | refine qg5 ?_ | refine qg6 (fun hb => ?_) (fun hb => ?_)) | ((with_reducible apply tagS); first | ((with_reducible apply tagD); first | refine qd1 ?_ | refine qd3 ?_) | ((with_reducible apply tagR); first | refine qr1 ?_ | refine qr3 ?_)) | ((with_reducible apply tagN); first | ((with_reducible apply tagD); first | refine qd2 ?_ | refine qd4 ?_) | ((with_reducible apply tagR); first | refine qr2 ?_ | refine qr4 ?_)) | ((with_reducible apply tagW); first | refine qw1 ?_ | refine qw2 ?_ | refine qw3 ?_ | refine qw4 ?_ | refine qw5 ?_ | refine qw6 (fun hb => ?_) (fun hb => ?_) | refine qw7 ?_ | refine qw8 ?_ | refine qw9 ?_ | refine qw0 ?_) | refine thenQ_n ?_ | refine thenQ_e ?_ | refine thenQ_r ?_ | refine blockQ_n ?_ | refine blockQ_r ?_ | refine blockQ_hit ?_ | refine qb4 ?_ | refine qe ?_ | refine loopQ_e ?_ | refine loopQ_r ?_
      all_goals clear E
      refine W_loopQ (fun k : Nat => [(15, dInt k), (14, dInt p.args.length), (13, .d (.sl (patsD p.args))), (3, dInt (bindsL (p.args.take k)))]) (fun _ => []) (fun k => p.args.length - k) (fun k => k ≤ p.args.length) 0 (by omega) qs fun k hk => ?_
      by_cases h : k < p.args.length
      · obtain ⟨x, hx⟩ := get_ex h
        have h1 : (k:Int) < p.args.length := by omega
        have hxs := psizes_get hx
        have hb1 := bindsL_le (p.args.take k)
        have hb2 := binds_le x
        have e1 : bindsL (p.args.take (k + 1)) = bindsL (p.args.take k) + bindsOf x := by
          rw [List.take_add_one, hx, bindsL_app]; simp [bindsL]
        have E := And.intro @h1 ((patsD_get hx))
        repeat' first | refine R_nil ?_ | ((with_reducible apply tagG); first | refine qg1 ?_ | refine qg2 ?_ | refine qg3 ?_ | refine qg4 ?_ | refine qg5 ?_ | refine qg6 (fun hb => ?_) (fun hb => ?_)) | ((with_reducible apply tagK); first | ((with_reducible apply tagD); first | refine qd5 (C76n n x (by omega) (by omega)) ?_) | ((with_reducible apply tagR); first | refine qr5 (C76n n x (by omega) (by omega)) ?_)) | ((with_reducible apply tagS); first | ((with_reducible apply tagD); first | refine qd1 ?_ | refine qd3 ?_) | ((with_reducible apply tagR); first | refine qr1 ?_ | refine qr3 ?_)) | ((with_reducible apply tagN); first | ((with_reducible apply tagD); first | refine qd2 ?_ | refine qd4 ?_) | ((with_reducible apply tagR); first | refine qr2 ?_ | refine qr4 ?_)) | ((with_reducible apply tagW); first | refine qw1 ?_ | refine qw2 ?_ | refine qw3 ?_ | refine qw4 ?_ | refine qw5 ?_ | refine qw6 (fun hb => ?_) (fun hb => ?_) | refine qw7 ?_ | refine qw8 ?_ | refine qw9 ?_ | refine qw0 ?_) | refine thenQ_n ?_ | refine thenQ_e ?_ | refine thenQ_r ?_ | refine blockQ_n ?_ | refine blockQ_r ?_ | refine blockQ_hit ?_ | refine qb4 ?_ | refine qe ?_ | refine loopQ_e ?_ | refine loopQ_r ?_
        all_goals clear E
        refine loopQ_n (k + 1) (by omega) (by omega) (by rw [e1]; exact qs)
      · have h1 : ¬ (k:Int) < p.args.length := by omega
        have E := @h1
        repeat' first | refine R_nil ?_ | ((with_reducible apply tagG); first | refine qg1 ?_ | refine qg2 ?_ | refine qg3 ?_ | refine qg4 ?_ | refine qg5 ?_ | refine qg6 (fun hb => ?_) (fun hb => ?_)) | ((with_reducible apply tagS); first | ((with_reducible apply tagD); first | refine qd1 ?_ | refine qd3 ?_) | ((with_reducible apply tagR); first | refine qr1 ?_ | refine qr3 ?_)) | ((with_reducible apply tagN); first | ((with_reducible apply tagD); first | refine qd2 ?_ | refine qd4 ?_) | ((with_reducible apply tagR); first | refine qr2 ?_ | refine qr4 ?_)) | ((with_reducible apply tagW); first | refine qw1 ?_ | refine qw2 ?_ | refine qw3 ?_ | refine qw4 ?_ | refine qw5 ?_ | refine qw6 (fun hb => ?_) (fun hb => ?_) | refine qw7 ?_ | refine qw8 ?_ | refine qw9 ?_ | refine qw0 ?_) | refine thenQ_n ?_ | refine thenQ_e ?_ | refine thenQ_r ?_ | refine blockQ_n ?_ | refine blockQ_r ?_ | refine blockQ_hit ?_ | refine qb4 ?_ | refine qe ?_ | refine loopQ_e ?_ | refine loopQ_r ?_
        all_goals clear E
        refine ret_d rfl ?_
        rw [bindsOf_eq, if_neg h2, if_pos h6, List.take_of_length_le (by omega)]
    · have e6 : decide (p.kind = 6) = false := by simp [h6]
      have e2 : decide (p.kind = 2) = false := by simp [h2]
      refine C_intro T_ok (rs := [.tmp 2]) Try.func76 rfl rfl rfl (Nat.le_of_ble_eq_true rfl) (Nat.le_of_ble_eq_true rfl) rfl ⟨rfl, rfl⟩ rfl fun cx hn => ?_
      have hn : cx.n = 25 := hn
      have Y := And.intro T3 (And.intro T9 (And.intro T61 (T63)))
      simp only [enumA, enumO, Nat.reduceAdd]
      have E := And.intro @e6 (@e2)
      repeat' first | refine R_nil ?_ | ((with_reducible apply tagG); first | refine qg1 ?_ | refine qg2 ?_ | refine qg3 ?_ | refine qg4 ?_ | refine qg5 ?_ | refine qg6 (fun hb => ?_) (fun hb => ?_)) | ((with_reducible apply tagS); first | ((with_reducible apply tagD); first | refine qd1 ?_ | refine qd3 ?_) | ((with_reducible apply tagR); first | refine qr1 ?_ | refine qr3 ?_)) | ((with_reducible apply tagN); first | ((with_reducible apply tagD); first | refine qd2 ?_ | refine qd4 ?_) | ((with_reducible apply tagR); first | refine qr2 ?_ | refine qr4 ?_)) | ((with_reducible apply tagW); first | refine qw1 ?_ | refine qw2 ?_ | refine qw3 ?_ | refine qw4 ?_ | refine qw5 ?_ | refine qw6 (fun hb => ?_) (fun hb => ?_) | refine qw7 ?_ | refine qw8 ?_ | refine qw9 ?_ | refine qw0 ?_) | refine thenQ_n ?_ | refine thenQ_e ?_ | refine thenQ_r ?_ | refine blockQ_n ?_ | refine blockQ_r ?_ | refine blockQ_hit ?_ | refine qb4 ?_ | refine qe ?_ | refine loopQ_e ?_ | refine loopQ_r ?_
      all_goals clear E
      exact ret_d rfl (by rw [bindsOf_eq, if_neg h2, if_neg h6])
theorem C76 (p : Pat) (h : psize p ≤ 1099511627776) : C Try.prog 76 [p.av] [] (dInt (bindsOf p)) [] [] := C76n _ p (Nat.le_refl _) h
end Go.Pw
