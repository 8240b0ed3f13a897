/- Functions: arms. -/
import Derived.Test.YtppebcfhhoggiaaQF3
set_option linter.unusedVariables false
set_option linter.unusedSimpArgs false
namespace Go.Pw
open Go Go.Proofs
attribute [local irreducible] runL W endD thenQ blockQ loopQ
set_option maxRecDepth 4000
set_option maxHeartbeats 1000000
def gather : Nat → List Int → Option (List Arm)
  | 0, _ => none
  | _ + 1, [] => some []
  | _ + 1, [_] => none
  | f + 1, p :: n :: l => if n < 0 ∨ n > l.length then none else (gather f (l.drop n.toNat)).map fun r => ⟨p, l.take n.toNat⟩ :: r
theorem gather_fuel : ∀ (f g : Nat) (l : List Int), l.length < f → l.length < g → gather f l = gather g l
  | 0, _, l, h, _ => by omega
  | _, 0, l, _, h => by omega
  | f + 1, g + 1, [], _, _ => rfl
  | f + 1, g + 1, [_], _, _ => rfl
  | f + 1, g + 1, p :: n :: l, h1, h2 => by
    simp only [gather]
    split
    · rfl
    · simp only [List.length_cons] at h1 h2
      rw [gather_fuel f g (l.drop n.toNat) (by rw [List.length_drop]; omega) (by rw [List.length_drop]; omega)]
def gat (l : List Int) : Option (List Arm) := gather (l.length + 1) l
def gath (l : List Int) : List Arm := (gat l).getD []
def gerr (l : List Int) : Int := if (gat l).isSome then 0 else 3
theorem gat_nil : gat [] = some [] := rfl
theorem gat_one (p : Int) : gat [p] = none := rfl
theorem gat_bad (p n : Int) (l : List Int) (h : n < 0 ∨ n > l.length) : gat (p :: n :: l) = none := by
  simp only [gat, gather, if_pos h]
theorem gat_cons (p n : Int) (l : List Int) (h : ¬ (n < 0 ∨ n > l.length)) : gat (p :: n :: l) = (gat (l.drop n.toNat)).map fun r => ⟨p, l.take n.toNat⟩ :: r := by
  simp only [gat]
  rw [show (p :: n :: l).length + 1 = (l.length + 2) + 1 from rfl, gather, if_neg h]
  rw [gather_fuel (l.length + 2) ((l.drop n.toNat).length + 1) _ (by rw [List.length_drop]; omega) (by omega)]
theorem ints_take (l : List Int) (n : Nat) : (ints l).take n = ints (l.take n) := by simp [ints]
theorem ints_drop (l : List Int) (n : Nat) : (ints l).drop n = ints (l.drop n) := by simp [ints]
theorem ints_cons (x : Int) (l : List Int) : ints (x :: l) = [DI x] :: ints l := rfl
theorem armsD_app (l : List Arm) (x : Arm) : armsD l ++ [x.row] = armsD (l ++ [x]) := by simp [armsD]
theorem len_cases : ∀ l : List Int, l = [] ∨ (∃ p, l = [p]) ∨ ∃ p n r, l = p :: n :: r
  | [] => .inl rfl
  | [p] => .inr (.inl ⟨p, rfl⟩)
  | p :: n :: r => .inr (.inr ⟨p, n, r, rfl⟩)
theorem C72 (l0 : List Int) (hl0 : Sm l0) : C Try.prog 72 [.d (.sl (ints l0))] [] (.tup [.ref 2000 0 (gath l0).length, dInt (gerr l0)]) [] [.row 2 (armsD (gath l0))] := by
  refine C_intro T_ok (rs := [.tmp 2, .tmp 3]) Try.func72 rfl rfl rfl (Nat.le_of_ble_eq_true rfl) (Nat.le_of_ble_eq_true rfl) rfl ⟨rfl, rfl⟩ rfl fun cx hn => ?_
  have hn : cx.n = 47 := hn
  have Y := And.intro T3 (And.intro T23 (And.intro T95 (T98)))
  simp only [enumA, enumO, Nat.reduceAdd]
  · repeat' first | refine R_nil ?_ | ((with_reducible apply tagG); first | refine qg1 ?_ | refine qg2 ?_ | refine qg3 ?_ | refine qg4 ?_ | refine qg5 ?_ | refine qg6 (fun hb => ?_) (fun hb => ?_)) | ((with_reducible apply tagS); first | ((with_reducible apply tagD); first | refine qd1 ?_ | refine qd3 ?_) | ((with_reducible apply tagR); first | refine qr1 ?_ | refine qr3 ?_)) | ((with_reducible apply tagN); first | ((with_reducible apply tagD); first | refine qd2 ?_ | refine qd4 ?_) | ((with_reducible apply tagR); first | refine qr2 ?_ | refine qr4 ?_)) | ((with_reducible apply tagW); first | refine qw1 ?_ | refine qw2 ?_ | refine qw3 ?_ | refine qw4 ?_ | refine qw5 ?_ | refine qw6 (fun hb => ?_) (fun hb => ?_) | refine qw7 ?_ | refine qw8 ?_ | refine qw9 ?_ | refine qw0 ?_) | refine thenQ_n ?_ | refine thenQ_e ?_ | refine thenQ_r ?_ | refine blockQ_n ?_ | refine blockQ_r ?_ | refine blockQ_hit ?_ | refine qb4 ?_ | refine qe ?_ | refine loopQ_e ?_ | refine loopQ_r ?_
    refine W_ghost (G_adopt 4 41 2 rfl rfl (.inr (by decide))) ?_
    refine W_loopQ (α := List Arm × List Int) (fun x => [(0, .d (.sl (ints x.2))), (4, .ref 41 0 x.1.length)]) (fun x => [(41, some (.row 2 (armsD x.1)))]) (fun x => x.2.length) (fun x => x.2.length + x.1.length ≤ l0.length ∧ gat l0 = (gat x.2).map fun r => x.1 ++ r) ([], l0) ⟨by simp, by simp⟩ qs fun ⟨don, rest⟩ ⟨hi, he⟩ => ?_
    dsimp only at hi he ⊢
    rcases len_cases rest with hr | ⟨p, hr⟩ | ⟨p, n, l, hr⟩
    · have h1 : ¬ (0:Int) < (rest.length : Int) := by rw [hr]; simp
      have E := @h1
      repeat' first | refine R_nil ?_ | ((with_reducible apply tagG); first | refine qg1 ?_ | refine qg2 ?_ | refine qg3 ?_ | refine qg4 ?_ | refine qg5 ?_ | refine qg6 (fun hb => ?_) (fun hb => ?_)) | ((with_reducible apply tagS); first | ((with_reducible apply tagD); first | refine qd1 ?_ | refine qd3 ?_) | ((with_reducible apply tagR); first | refine qr1 ?_ | refine qr3 ?_)) | ((with_reducible apply tagN); first | ((with_reducible apply tagD); first | refine qd2 ?_ | refine qd4 ?_) | ((with_reducible apply tagR); first | refine qr2 ?_ | refine qr4 ?_)) | ((with_reducible apply tagW); first | refine qw1 ?_ | refine qw2 ?_ | refine qw3 ?_ | refine qw4 ?_ | refine qw5 ?_ | refine qw6 (fun hb => ?_) (fun hb => ?_) | refine qw7 ?_ | refine qw8 ?_ | refine qw9 ?_ | refine qw0 ?_) | refine thenQ_n ?_ | refine thenQ_e ?_ | refine thenQ_r ?_ | refine blockQ_n ?_ | refine blockQ_r ?_ | refine blockQ_hit ?_ | refine qb4 ?_ | refine qe ?_ | refine loopQ_e ?_ | refine loopQ_r ?_
      all_goals clear E
      refine ret_own2 rfl rfl rfl rfl ?_ ?_ ?_
      all_goals simp [gath, gerr, he, hr, gat_nil]
    · have h1 : (0:Int) < (rest.length : Int) := by rw [hr]; simp
      have h2 : (rest.length : Int) < 2 := by rw [hr]; simp
      have E := And.intro @h1 (@h2)
      repeat' first | refine R_nil ?_ | ((with_reducible apply tagG); first | refine qg1 ?_ | refine qg2 ?_ | refine qg3 ?_ | refine qg4 ?_ | refine qg5 ?_ | refine qg6 (fun hb => ?_) (fun hb => ?_)) | ((with_reducible apply tagS); first | ((with_reducible apply tagD); first | refine qd1 ?_ | refine qd3 ?_) | ((with_reducible apply tagR); first | refine qr1 ?_ | refine qr3 ?_)) | ((with_reducible apply tagN); first | ((with_reducible apply tagD); first | refine qd2 ?_ | refine qd4 ?_) | ((with_reducible apply tagR); first | refine qr2 ?_ | refine qr4 ?_)) | ((with_reducible apply tagW); first | refine qw1 ?_ | refine qw2 ?_ | refine qw3 ?_ | refine qw4 ?_ | refine qw5 ?_ | refine qw6 (fun hb => ?_) (fun hb => ?_) | refine qw7 ?_ | refine qw8 ?_ | refine qw9 ?_ | refine qw0 ?_) | refine thenQ_n ?_ | refine thenQ_e ?_ | refine thenQ_r ?_ | refine blockQ_n ?_ | refine blockQ_r ?_ | refine blockQ_hit ?_ | refine qb4 ?_ | refine qe ?_ | refine loopQ_e ?_ | refine loopQ_r ?_
      all_goals clear E
      have e : gat l0 = none := by rw [he, hr]; rfl
      have e1 : gath l0 = [] := by simp [gath, e]
      have e2 : gerr l0 = 3 := by simp [gerr, e]
      rw [e1, e2]
      exact ret_nil2 2 rfl rfl rfl rfl
    · have hlen : rest.length = l.length + 2 := by rw [hr]; rfl
      have h1 : (0:Int) < (rest.length : Int) := by omega
      have h2 : ¬ (rest.length : Int) < 2 := by omega
      have h3 : (1 : Int) < (rest.length : Int) := by omega
      have g0 : (ints rest).getD 0 [] = [DI p] := by rw [hr]; rfl
      have g1 : (ints rest).getD 1 [] = [DI n] := by rw [hr]; rfl
      have t0 : Int.toNat 0 = 0 := rfl
      have t1 : Int.toNat 1 = 1 := rfl
      by_cases hn1 : n < 0
      · have E := And.intro @h1 (And.intro @h2 (And.intro @h3 (And.intro @hn1 (And.intro @g0 (And.intro @g1 (And.intro @t0 (@t1)))))))
        repeat' first | refine R_nil ?_ | ((with_reducible apply tagG); first | refine qg1 ?_ | refine qg2 ?_ | refine qg3 ?_ | refine qg4 ?_ | refine qg5 ?_ | refine qg6 (fun hb => ?_) (fun hb => ?_)) | ((with_reducible apply tagS); first | ((with_reducible apply tagD); first | refine qd1 ?_ | refine qd3 ?_) | ((with_reducible apply tagR); first | refine qr1 ?_ | refine qr3 ?_)) | ((with_reducible apply tagN); first | ((with_reducible apply tagD); first | refine qd2 ?_ | refine qd4 ?_) | ((with_reducible apply tagR); first | refine qr2 ?_ | refine qr4 ?_)) | ((with_reducible apply tagW); first | refine qw1 ?_ | refine qw2 ?_ | refine qw3 ?_ | refine qw4 ?_ | refine qw5 ?_ | refine qw6 (fun hb => ?_) (fun hb => ?_) | refine qw7 ?_ | refine qw8 ?_ | refine qw9 ?_ | refine qw0 ?_) | refine thenQ_n ?_ | refine thenQ_e ?_ | refine thenQ_r ?_ | refine blockQ_n ?_ | refine blockQ_r ?_ | refine blockQ_hit ?_ | refine qb4 ?_ | refine qe ?_ | refine loopQ_e ?_ | refine loopQ_r ?_
        all_goals clear E
        have e : gat l0 = none := by rw [he, hr, gat_bad _ _ _ (.inl hn1)]; rfl
        have e1 : gath l0 = [] := by simp [gath, e]
        have e2 : gerr l0 = 3 := by simp [gerr, e]
        rw [e1, e2]
        exact ret_nil2 2 rfl rfl rfl rfl
      by_cases hn2 : (rest.length : Int) - 2 < n
      · have E := And.intro @h1 (And.intro @h2 (And.intro @h3 (And.intro @hn1 (And.intro @hn2 (And.intro @g0 (And.intro @g1 (And.intro @t0 (@t1))))))))
        repeat' first | refine R_nil ?_ | ((with_reducible apply tagG); first | refine qg1 ?_ | refine qg2 ?_ | refine qg3 ?_ | refine qg4 ?_ | refine qg5 ?_ | refine qg6 (fun hb => ?_) (fun hb => ?_)) | ((with_reducible apply tagS); first | ((with_reducible apply tagD); first | refine qd1 ?_ | refine qd3 ?_) | ((with_reducible apply tagR); first | refine qr1 ?_ | refine qr3 ?_)) | ((with_reducible apply tagN); first | ((with_reducible apply tagD); first | refine qd2 ?_ | refine qd4 ?_) | ((with_reducible apply tagR); first | refine qr2 ?_ | refine qr4 ?_)) | ((with_reducible apply tagW); first | refine qw1 ?_ | refine qw2 ?_ | refine qw3 ?_ | refine qw4 ?_ | refine qw5 ?_ | refine qw6 (fun hb => ?_) (fun hb => ?_) | refine qw7 ?_ | refine qw8 ?_ | refine qw9 ?_ | refine qw0 ?_) | refine thenQ_n ?_ | refine thenQ_e ?_ | refine thenQ_r ?_ | refine blockQ_n ?_ | refine blockQ_r ?_ | refine blockQ_hit ?_ | refine qb4 ?_ | refine qe ?_ | refine loopQ_e ?_ | refine loopQ_r ?_
        all_goals clear E
        have e : gat l0 = none := by rw [he, hr, gat_bad _ _ _ (.inr (by omega))]; rfl
        have e1 : gath l0 = [] := by simp [gath, e]
        have e2 : gerr l0 = 3 := by simp [gerr, e]
        rw [e1, e2]
        exact ret_nil2 2 rfl rfl rfl rfl
      obtain ⟨m, rfl⟩ : ∃ m : Nat, n = m := ⟨n.toNat, by omega⟩
      have t2 : (2 + (m:Int)).toNat = 2 + m := by omega
      have t3 : Int.toNat 2 = 2 := rfl
      have t4 : 2 + m - 2 = m := by omega
      have t5 : (rest.length : Int).toNat - (2 + m) = rest.length - (2 + m) := by omega
      have d1 : ((ints rest).drop 2).take m = ints (l.take m) := by rw [hr]; simp [ints]
      have d2 : ((ints rest).drop (2 + m)).take (rest.length - (2 + m)) = ints (l.drop m) := by
        rw [List.take_of_length_le (by simp [ints])]
        rw [hr]; simp [ints, Nat.add_comm 2 m]
      have d3 : (ints (l.take m)).length = m := by rw [ints_len, List.length_take]; omega
      have d4 : (ints (l.take m)).take m = ints (l.take m) := List.take_of_length_le (by rw [d3]; omega)
      have d5 : (armsD don).take don.length = armsD don := List.take_of_length_le (by rw [armsD_len]; omega)
      have d6 : armsD don ++ [[DI p, D.sl (ints (l.take m))]] = armsD (don ++ [⟨p, l.take m⟩]) := by simp [armsD, Arm.row]
      have E := And.intro @h1 (And.intro @h2 (And.intro @h3 (And.intro @hn1 (And.intro @hn2 (And.intro @g0 (And.intro @g1 (And.intro @t0 (And.intro @t1 (And.intro @t2 (And.intro @t3 (And.intro @t4 (And.intro @t5 (And.intro @d1 (And.intro @d2 (And.intro @d3 (And.intro @d4 (And.intro @d5 (@d6))))))))))))))))))
      repeat' first | refine R_nil ?_ | ((with_reducible apply tagG); first | refine qg1 ?_ | refine qg2 ?_ | refine qg3 ?_ | refine qg4 ?_ | refine qg5 ?_ | refine qg6 (fun hb => ?_) (fun hb => ?_)) | ((with_reducible apply tagS); first | ((with_reducible apply tagD); first | refine qd1 ?_ | refine qd3 ?_) | ((with_reducible apply tagR); first | refine qr1 ?_ | refine qr3 ?_)) | ((with_reducible apply tagN); first | ((with_reducible apply tagD); first | refine qd2 ?_ | refine qd4 ?_) | ((with_reducible apply tagR); first | refine qr2 ?_ | refine qr4 ?_)) | ((with_reducible apply tagW); first | refine qw1 ?_ | refine qw2 ?_ | refine qw3 ?_ | refine qw4 ?_ | refine qw5 ?_ | refine qw6 (fun hb => ?_) (fun hb => ?_) | refine qw7 ?_ | refine qw8 ?_ | refine qw9 ?_ | refine qw0 ?_) | refine thenQ_n ?_ | refine thenQ_e ?_ | refine thenQ_r ?_ | refine blockQ_n ?_ | refine blockQ_r ?_ | refine blockQ_hit ?_ | refine qb4 ?_ | refine qe ?_ | refine loopQ_e ?_ | refine loopQ_r ?_
      all_goals clear E
      refine loopQ_n (don ++ [⟨p, l.take m⟩], l.drop m) ?_ ⟨?_, ?_⟩ (by have E := @List.length_append.{0}; exact qs)
      · dsimp only; rw [List.length_drop]; omega
      · dsimp only; rw [List.length_drop, List.length_append]; simp only [List.length_cons, List.length_nil]; omega
      · dsimp only
        rw [he, hr, gat_cons _ _ _ (by omega), Int.toNat_natCast]
        cases gat (List.drop m l) <;> simp
end Go.Pw
