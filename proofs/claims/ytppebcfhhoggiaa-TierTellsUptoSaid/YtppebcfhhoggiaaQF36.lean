/- Functions of the reference: numbers and texts, packed. -/
import Derived.Test.YtppebcfhhoggiaaQL2
set_option linter.unusedVariables false
set_option linter.unusedSimpArgs false
namespace Go.Pw
open Go Go.Proofs
attribute [local irreducible] runL W endD thenQ blockQ loopQ
set_option maxRecDepth 8000
set_option maxHeartbeats 8000000
def byteS (n : Int) : ByteArray := strOfNums [IntKind.u8.wrap n]
def numGo : Nat → Int → ByteArray → ByteArray
  | 0, u, s => s ++ byteS u
  | k + 1, u, s => if 127 < u then numGo k (u.tdiv 128) (s ++ byteS (u.tmod 128 + 128)) else s ++ byteS u
def numU (n : Int) : Int := if n < 0 then IntKind.u64.wrap (IntKind.u64.wrap (IntKind.u64.wrap (0 - (n + 1)) * 2) + 1) else IntKind.u64.wrap (IntKind.u64.wrap n * 2)
def numS (n : Int) : ByteArray := numGo 9 (numU n) ByteArray.empty
theorem u64_bound (x : Int) : 0 ≤ IntKind.u64.wrap x ∧ IntKind.u64.wrap x < 18446744073709551616 := by
  simp [IntKind.wrap, IntKind.bits, IntKind.signed]
  omega
theorem u64_id {x : Int} (h : 0 ≤ x) (h2 : x < 18446744073709551616) : IntKind.u64.wrap x = x := by
  simp [IntKind.wrap, IntKind.bits, IntKind.signed]
  omega
theorem numU_bound (n : Int) : 0 ≤ numU n ∧ numU n < 18446744073709551616 := by
  unfold numU; split <;> exact u64_bound _
theorem byteS_size (n : Int) : (byteS n).size = 1 := by simp [byteS, strOfNums]; rfl
theorem app_size (a b : ByteArray) : (a ++ b).size = a.size + b.size := ByteArray.size_append
theorem numGo_size : ∀ (k : Nat) (u : Int) (s : ByteArray), (numGo k u s).size ≤ s.size + k + 1
  | 0, u, s => by rw [numGo, app_size, byteS_size]; omega
  | k + 1, u, s => by
    rw [numGo]
    split
    · have := numGo_size k (u.tdiv 128) (s ++ byteS (u.tmod 128 + 128))
      rw [app_size, byteS_size] at this; omega
    · rw [app_size, byteS_size]; omega
theorem numS_size (n : Int) : (numS n).size ≤ 10 := by
  have := numGo_size 9 (numU n) ByteArray.empty
  simpa [numS] using this
theorem num8_lit (k : IntKind) (n : Int) : num8 [D.lit (.int k n)] = n := rfl
theorem num8_ob (n : Int) : ∀ r ∈ [[D.lit (.int .u8 n)]], r = [D.lit (.int .u8 (num8 r))] := by
  intro r hr; rw [List.mem_singleton.1 hr]; rfl
theorem numGo_end (k : Nat) (u : Int) (s : ByteArray) (h : ¬ 127 < u) : numGo k u s = s ++ byteS u := by
  cases k with
  | zero => rfl
  | succ k => rw [numGo, if_neg h]
theorem C27 (n : Int) (h1 : -9223372036854775808 ≤ n) (h2 : n < 9223372036854775808) : C Try.prog 27 [dInt n] [] (dStr (numS n)) [] [] := by
  have hb := numU_bound n
  by_cases hn0 : n < 0
  · have hU : IntKind.u64.wrap (IntKind.u64.wrap (IntKind.u64.wrap (0 - (n + 1)) * 2) + 1) = numU n := by unfold numU; rw [if_pos hn0]
    refine C_intro T_ok (rs := [.tmp 2]) Try.func27 rfl rfl rfl (Nat.le_of_ble_eq_true rfl) (Nat.le_of_ble_eq_true rfl) rfl ⟨rfl, rfl⟩ rfl fun cx hn => ?_
    have hn : cx.n = 34 := hn
    have Y := And.intro T3 (And.intro T5 (And.intro T9 (And.intro T103 (T104))))
    simp only [enumA, enumO, Nat.reduceAdd]
    have E := @hn0
    repeat' first | refine R_nil ?_ | ((with_reducible apply tagG); first | refine qg1 ?_ | refine qg2 ?_ | refine qg3 ?_ | refine qg4 ?_ | refine qg5 ?_ | refine qg6 (fun hb => ?_) (fun hb => ?_)) | ((with_reducible apply tagS); first | ((with_reducible apply tagD); first | refine qd1 ?_ | refine qd3 ?_) | ((with_reducible apply tagR); first | refine qr1 ?_ | refine qr3 ?_)) | ((with_reducible apply tagN); first | ((with_reducible apply tagD); first | refine qd2 ?_ | refine qd4 ?_) | ((with_reducible apply tagR); first | refine qr2 ?_ | refine qr4 ?_)) | ((with_reducible apply tagW); first | refine qw1 ?_ | refine qw2 ?_ | refine qw3 ?_ | refine qw4 ?_ | refine qw5 ?_ | refine qw6 (fun hb => ?_) (fun hb => ?_) | refine qw7 ?_ | refine qw8 ?_ | refine qw9 ?_ | refine qw0 ?_) | refine thenQ_n ?_ | refine thenQ_e ?_ | refine thenQ_r ?_ | refine blockQ_n ?_ | refine blockQ_r ?_ | refine blockQ_hit ?_ | refine qb4 ?_ | refine qe ?_ | refine loopQ_e ?_ | refine loopQ_r ?_
    all_goals clear E
    refine W_loopQ (α := Nat × Int × ByteArray) (fun x => [(3, .d (.lit (.int .u64 x.2.1))), (4, dStr x.2.2)]) (fun _ => []) (fun x => x.1) (fun x => numS n = numGo x.1 x.2.1 x.2.2 ∧ 0 ≤ x.2.1 ∧ x.2.1 < 18446744073709551616 ∧ x.2.1 < 128 ^ (x.1 + 1) ∧ x.2.2.size + x.1 ≤ 9) (9, numU n, ByteArray.empty) ⟨rfl, hb.1, hb.2, by have := hb.2; simp; omega, by simp⟩ (by have E := hU; exact qs) fun ⟨k, u, s⟩ ⟨he, hu0, hu2, hu1, hs⟩ => ?_
    dsimp only at he hu0 hu2 hu1 hs ⊢
    by_cases hu : 127 < u
    · cases k with
      | zero => simp at hu1; omega
      | succ k =>
        have d1 : u.tdiv 128 = u / 128 := Int.tdiv_eq_ediv_of_nonneg hu0
        have d2 : u.tmod 128 = u % 128 := Int.tmod_eq_emod_of_nonneg hu0
        have w1 : IntKind.u64.wrap (u.tdiv 128) = u.tdiv 128 := u64_id (by omega) (by omega)
        have w2 : 0 ≤ u.tmod 128 ∧ u.tmod 128 < 128 := by omega
        have w3 : IntKind.u64.wrap (u.tmod 128 + 128) = u.tmod 128 + 128 := u64_id (by omega) (by omega)
        have w4 : strOfNums [IntKind.u8.wrap (u.tmod 128 + 128)] = byteS (u.tmod 128 + 128) := rfl
        have w5 := byteS_size (u.tmod 128 + 128)
        have o8 := num8_ob (IntKind.u8.wrap (u.tmod 128 + 128))
        have E := And.intro @hu (And.intro @w1 (And.intro @w3 (And.intro @w4 (And.intro @w5 (@num8_lit)))))
        repeat' first | refine R_nil ?_ | ((with_reducible apply tagG); first | refine qg1 ?_ | refine qg2 ?_ | refine qg3 ?_ | refine qg4 ?_ | refine qg5 ?_ | refine qg6 (fun hb => ?_) (fun hb => ?_)) | ((with_reducible apply tagS); first | ((with_reducible apply tagD); first | refine qd1 ?_ | refine qd3 ?_) | ((with_reducible apply tagR); first | refine qr1 ?_ | refine qr3 ?_)) | ((with_reducible apply tagN); first | ((with_reducible apply tagD); first | refine qd2 ?_ | refine qd4 ?_) | ((with_reducible apply tagR); first | refine qr2 ?_ | refine qr4 ?_)) | ((with_reducible apply tagW); first | refine qw1 ?_ | refine qw2 ?_ | refine qw3 ?_ | refine qw4 ?_ | refine qw5 ?_ | refine qw6 (fun hb => ?_) (fun hb => ?_) | refine qw7 ?_ | refine qw8 ?_ | refine qw9 ?_ | refine qw0 ?_) | refine thenQ_n ?_ | refine thenQ_e ?_ | refine thenQ_r ?_ | refine blockQ_n ?_ | refine blockQ_r ?_ | refine blockQ_hit ?_ | refine qb4 ?_ | refine qe ?_ | refine loopQ_e ?_ | refine loopQ_r ?_
        all_goals clear E
        refine loopQ_n (k, u.tdiv 128, s ++ byteS (u.tmod 128 + 128)) (by dsimp only; omega) ⟨by dsimp only; rw [he, numGo, if_pos hu], by dsimp only; omega, by dsimp only; omega, ?_, by dsimp only; rw [app_size, byteS_size]; omega⟩ (by dsimp only; exact qs)
        dsimp only
        have e1 : (128 : Int) ^ (k + 1 + 1) = 128 ^ (k + 1) * 128 := Int.pow_succ ..
        omega
    · have w4 : strOfNums [IntKind.u8.wrap u] = byteS u := rfl
      have w5 := byteS_size u
      have o8 := num8_ob (IntKind.u8.wrap u)
      have E := And.intro @hu (And.intro @w4 (And.intro @w5 (@num8_lit)))
      repeat' first | refine R_nil ?_ | ((with_reducible apply tagG); first | refine qg1 ?_ | refine qg2 ?_ | refine qg3 ?_ | refine qg4 ?_ | refine qg5 ?_ | refine qg6 (fun hb => ?_) (fun hb => ?_)) | ((with_reducible apply tagS); first | ((with_reducible apply tagD); first | refine qd1 ?_ | refine qd3 ?_) | ((with_reducible apply tagR); first | refine qr1 ?_ | refine qr3 ?_)) | ((with_reducible apply tagN); first | ((with_reducible apply tagD); first | refine qd2 ?_ | refine qd4 ?_) | ((with_reducible apply tagR); first | refine qr2 ?_ | refine qr4 ?_)) | ((with_reducible apply tagW); first | refine qw1 ?_ | refine qw2 ?_ | refine qw3 ?_ | refine qw4 ?_ | refine qw5 ?_ | refine qw6 (fun hb => ?_) (fun hb => ?_) | refine qw7 ?_ | refine qw8 ?_ | refine qw9 ?_ | refine qw0 ?_) | refine thenQ_n ?_ | refine thenQ_e ?_ | refine thenQ_r ?_ | refine blockQ_n ?_ | refine blockQ_r ?_ | refine blockQ_hit ?_ | refine qb4 ?_ | refine qe ?_ | refine loopQ_e ?_ | refine loopQ_r ?_
      all_goals clear E
      refine ret_d rfl ?_
      rw [he, numGo_end _ _ _ hu]
  · have hU : IntKind.u64.wrap (IntKind.u64.wrap n * 2) = numU n := by unfold numU; rw [if_neg hn0]
    refine C_intro T_ok (rs := [.tmp 2]) Try.func27 rfl rfl rfl (Nat.le_of_ble_eq_true rfl) (Nat.le_of_ble_eq_true rfl) rfl ⟨rfl, rfl⟩ rfl fun cx hn => ?_
    have hn : cx.n = 34 := hn
    have Y := And.intro T3 (And.intro T5 (And.intro T9 (And.intro T103 (T104))))
    simp only [enumA, enumO, Nat.reduceAdd]
    have E := @hn0
    repeat' first | refine R_nil ?_ | ((with_reducible apply tagG); first | refine qg1 ?_ | refine qg2 ?_ | refine qg3 ?_ | refine qg4 ?_ | refine qg5 ?_ | refine qg6 (fun hb => ?_) (fun hb => ?_)) | ((with_reducible apply tagS); first | ((with_reducible apply tagD); first | refine qd1 ?_ | refine qd3 ?_) | ((with_reducible apply tagR); first | refine qr1 ?_ | refine qr3 ?_)) | ((with_reducible apply tagN); first | ((with_reducible apply tagD); first | refine qd2 ?_ | refine qd4 ?_) | ((with_reducible apply tagR); first | refine qr2 ?_ | refine qr4 ?_)) | ((with_reducible apply tagW); first | refine qw1 ?_ | refine qw2 ?_ | refine qw3 ?_ | refine qw4 ?_ | refine qw5 ?_ | refine qw6 (fun hb => ?_) (fun hb => ?_) | refine qw7 ?_ | refine qw8 ?_ | refine qw9 ?_ | refine qw0 ?_) | refine thenQ_n ?_ | refine thenQ_e ?_ | refine thenQ_r ?_ | refine blockQ_n ?_ | refine blockQ_r ?_ | refine blockQ_hit ?_ | refine qb4 ?_ | refine qe ?_ | refine loopQ_e ?_ | refine loopQ_r ?_
    all_goals clear E
    refine W_loopQ (α := Nat × Int × ByteArray) (fun x => [(3, .d (.lit (.int .u64 x.2.1))), (4, dStr x.2.2)]) (fun _ => []) (fun x => x.1) (fun x => numS n = numGo x.1 x.2.1 x.2.2 ∧ 0 ≤ x.2.1 ∧ x.2.1 < 18446744073709551616 ∧ x.2.1 < 128 ^ (x.1 + 1) ∧ x.2.2.size + x.1 ≤ 9) (9, numU n, ByteArray.empty) ⟨rfl, hb.1, hb.2, by have := hb.2; simp; omega, by simp⟩ (by have E := hU; exact qs) fun ⟨k, u, s⟩ ⟨he, hu0, hu2, hu1, hs⟩ => ?_
    dsimp only at he hu0 hu2 hu1 hs ⊢
    by_cases hu : 127 < u
    · cases k with
      | zero => simp at hu1; omega
      | succ k =>
        have d1 : u.tdiv 128 = u / 128 := Int.tdiv_eq_ediv_of_nonneg hu0
        have d2 : u.tmod 128 = u % 128 := Int.tmod_eq_emod_of_nonneg hu0
        have w1 : IntKind.u64.wrap (u.tdiv 128) = u.tdiv 128 := u64_id (by omega) (by omega)
        have w2 : 0 ≤ u.tmod 128 ∧ u.tmod 128 < 128 := by omega
        have w3 : IntKind.u64.wrap (u.tmod 128 + 128) = u.tmod 128 + 128 := u64_id (by omega) (by omega)
        have w4 : strOfNums [IntKind.u8.wrap (u.tmod 128 + 128)] = byteS (u.tmod 128 + 128) := rfl
        have w5 := byteS_size (u.tmod 128 + 128)
        have o8 := num8_ob (IntKind.u8.wrap (u.tmod 128 + 128))
        have E := And.intro @hu (And.intro @w1 (And.intro @w3 (And.intro @w4 (And.intro @w5 (@num8_lit)))))
        repeat' first | refine R_nil ?_ | ((with_reducible apply tagG); first | refine qg1 ?_ | refine qg2 ?_ | refine qg3 ?_ | refine qg4 ?_ | refine qg5 ?_ | refine qg6 (fun hb => ?_) (fun hb => ?_)) | ((with_reducible apply tagS); first | ((with_reducible apply tagD); first | refine qd1 ?_ | refine qd3 ?_) | ((with_reducible apply tagR); first | refine qr1 ?_ | refine qr3 ?_)) | ((with_reducible apply tagN); first | ((with_reducible apply tagD); first | refine qd2 ?_ | refine qd4 ?_) | ((with_reducible apply tagR); first | refine qr2 ?_ | refine qr4 ?_)) | ((with_reducible apply tagW); first | refine qw1 ?_ | refine qw2 ?_ | refine qw3 ?_ | refine qw4 ?_ | refine qw5 ?_ | refine qw6 (fun hb => ?_) (fun hb => ?_) | refine qw7 ?_ | refine qw8 ?_ | refine qw9 ?_ | refine qw0 ?_) | refine thenQ_n ?_ | refine thenQ_e ?_ | refine thenQ_r ?_ | refine blockQ_n ?_ | refine blockQ_r ?_ | refine blockQ_hit ?_ | refine qb4 ?_ | refine qe ?_ | refine loopQ_e ?_ | refine loopQ_r ?_
        all_goals clear E
        refine loopQ_n (k, u.tdiv 128, s ++ byteS (u.tmod 128 + 128)) (by dsimp only; omega) ⟨by dsimp only; rw [he, numGo, if_pos hu], by dsimp only; omega, by dsimp only; omega, ?_, by dsimp only; rw [app_size, byteS_size]; omega⟩ (by dsimp only; exact qs)
        dsimp only
        have e1 : (128 : Int) ^ (k + 1 + 1) = 128 ^ (k + 1) * 128 := Int.pow_succ ..
        omega
    · have w4 : strOfNums [IntKind.u8.wrap u] = byteS u := rfl
      have w5 := byteS_size u
      have o8 := num8_ob (IntKind.u8.wrap u)
      have E := And.intro @hu (And.intro @w4 (And.intro @w5 (@num8_lit)))
      repeat' first | refine R_nil ?_ | ((with_reducible apply tagG); first | refine qg1 ?_ | refine qg2 ?_ | refine qg3 ?_ | refine qg4 ?_ | refine qg5 ?_ | refine qg6 (fun hb => ?_) (fun hb => ?_)) | ((with_reducible apply tagS); first | ((with_reducible apply tagD); first | refine qd1 ?_ | refine qd3 ?_) | ((with_reducible apply tagR); first | refine qr1 ?_ | refine qr3 ?_)) | ((with_reducible apply tagN); first | ((with_reducible apply tagD); first | refine qd2 ?_ | refine qd4 ?_) | ((with_reducible apply tagR); first | refine qr2 ?_ | refine qr4 ?_)) | ((with_reducible apply tagW); first | refine qw1 ?_ | refine qw2 ?_ | refine qw3 ?_ | refine qw4 ?_ | refine qw5 ?_ | refine qw6 (fun hb => ?_) (fun hb => ?_) | refine qw7 ?_ | refine qw8 ?_ | refine qw9 ?_ | refine qw0 ?_) | refine thenQ_n ?_ | refine thenQ_e ?_ | refine thenQ_r ?_ | refine blockQ_n ?_ | refine blockQ_r ?_ | refine blockQ_hit ?_ | refine qb4 ?_ | refine qe ?_ | refine loopQ_e ?_ | refine loopQ_r ?_
      all_goals clear E
      refine ret_d rfl ?_
      rw [he, numGo_end _ _ _ hu]
end Go.Pw
