/- Functions of the reference: arms. -/
import Derived.Test.YtppebcfhhoggiaaQL2
import Derived.Test.YtppebcfhhoggiaaQF5
set_option linter.unusedVariables false
set_option linter.unusedSimpArgs false
namespace Go.Pw
open Go Go.Proofs
attribute [local irreducible] runL W endD thenQ blockQ loopQ
set_option maxRecDepth 8000
set_option maxHeartbeats 16000000
theorem drop_get {l : List Int} {i j : Nat} {p : Int} {r : List Int} (h : l.drop i = p :: r) : l[i]? = some p ∧ l.drop (i + 1) = r := by
  constructor
  · have := congrArg (fun l => l[0]?) h
    simpa using this
  · rw [← List.drop_drop, h]; rfl
theorem armsD_take (l : List Arm) : (armsD l).take l.length = armsD l := List.take_of_length_le (by rw [armsD_len]; omega)
theorem C57 (l0 : List Int) (hl0 : Sm l0) : C Try.prog 57 [.d (.sl (ints l0))] [] (.tup [.d (.sl (armsD (gath l0))), dBool (gat l0).isSome]) [] [] := by
  refine C_intro T_ok (rs := [.tmp 2, .tmp 3]) Try.func57 rfl rfl rfl (Nat.le_of_ble_eq_true rfl) (Nat.le_of_ble_eq_true rfl) rfl ⟨rfl, rfl⟩ rfl fun cx hn => ?_
  have hn : cx.n = 77 := hn
  have Y := And.intro T3 (And.intro T23 (And.intro T95 (T98)))
  simp only [enumA, enumO, Nat.reduceAdd]
  repeat' first | refine R_nil ?_ | ((with_reducible apply tagG); first | refine qg1 ?_ | refine qg2 ?_ | refine qg3 ?_ | refine qg4 ?_ | refine qg5 ?_ | refine qg6 (fun hb => ?_) (fun hb => ?_)) | ((with_reducible apply tagS); first | ((with_reducible apply tagD); first | refine qd1 ?_ | refine qd3 ?_) | ((with_reducible apply tagR); first | refine qr1 ?_ | refine qr3 ?_)) | ((with_reducible apply tagN); first | ((with_reducible apply tagD); first | refine qd2 ?_ | refine qd4 ?_) | ((with_reducible apply tagR); first | refine qr2 ?_ | refine qr4 ?_)) | ((with_reducible apply tagW); first | refine qw1 ?_ | refine qw2 ?_ | refine qw3 ?_ | refine qw4 ?_ | refine qw5 ?_ | refine qw6 (fun hb => ?_) (fun hb => ?_) | refine qw7 ?_ | refine qw8 ?_ | refine qw9 ?_ | refine qw0 ?_) | refine thenQ_n ?_ | refine thenQ_e ?_ | refine thenQ_r ?_ | refine blockQ_n ?_ | refine blockQ_r ?_ | refine blockQ_hit ?_ | refine qb4 ?_ | refine qe ?_ | refine loopQ_e ?_ | refine loopQ_r ?_
  refine W_ghost (G_adopt 4 67 2 rfl rfl (.inr (by decide))) ?_
  refine W_loopQ (α := List Arm × Nat) (fun x => [(5, dInt x.2), (0, .d (.sl (ints l0))), (4, .ref 67 0 x.1.length)]) (fun x => [(67, some (.row 2 (armsD x.1)))]) (fun x => l0.length - x.2) (fun x => x.2 ≤ l0.length ∧ x.1.length ≤ x.2 ∧ gat l0 = (gat (l0.drop x.2)).map fun r => x.1 ++ r) ([], 0) ⟨by simp, by simp, by simp⟩ qs fun ⟨don, i⟩ ⟨hi, hdl, he⟩ => ?_
  dsimp only at hi hdl he ⊢
  have e0 := armsD_take don
  have hdr : (l0.drop i).length = l0.length - i := by simp
  rcases len_cases (l0.drop i) with hr | ⟨p, hr⟩ | ⟨p, n, r, hr⟩
  · rw [hr] at hdr he
    have h1 : ¬ (i : Int) < l0.length := by simp at hdr; omega
    have E := @h1
    repeat' first | refine R_nil ?_ | ((with_reducible apply tagG); first | refine qg1 ?_ | refine qg2 ?_ | refine qg3 ?_ | refine qg4 ?_ | refine qg5 ?_ | refine qg6 (fun hb => ?_) (fun hb => ?_)) | ((with_reducible apply tagS); first | ((with_reducible apply tagD); first | refine qd1 ?_ | refine qd3 ?_) | ((with_reducible apply tagR); first | refine qr1 ?_ | refine qr3 ?_)) | ((with_reducible apply tagN); first | ((with_reducible apply tagD); first | refine qd2 ?_ | refine qd4 ?_) | ((with_reducible apply tagR); first | refine qr2 ?_ | refine qr4 ?_)) | ((with_reducible apply tagW); first | refine qw1 ?_ | refine qw2 ?_ | refine qw3 ?_ | refine qw4 ?_ | refine qw5 ?_ | refine qw6 (fun hb => ?_) (fun hb => ?_) | refine qw7 ?_ | refine qw8 ?_ | refine qw9 ?_ | refine qw0 ?_) | refine thenQ_n ?_ | refine thenQ_e ?_ | refine thenQ_r ?_ | refine blockQ_n ?_ | refine blockQ_r ?_ | refine blockQ_hit ?_ | refine qb4 ?_ | refine qe ?_ | refine loopQ_e ?_ | refine loopQ_r ?_
    all_goals clear E
    have e1 : gath l0 = don := by simp [gath, he, gat_nil]
    have e2 : (gat l0).isSome = true := by simp [he, gat_nil]
    rw [e1, e2]
    have E := e0
    exact finQ_g (G_d [67]) (ret_a rfl)
  · rw [hr] at hdr he
    have h1 : (i : Int) < l0.length := by simp at hdr; omega
    have h2 : (l0.length : Int) ≤ i + 1 := by simp at hdr; omega
    have E := And.intro @h1 (@h2)
    repeat' first | refine R_nil ?_ | ((with_reducible apply tagG); first | refine qg1 ?_ | refine qg2 ?_ | refine qg3 ?_ | refine qg4 ?_ | refine qg5 ?_ | refine qg6 (fun hb => ?_) (fun hb => ?_)) | ((with_reducible apply tagS); first | ((with_reducible apply tagD); first | refine qd1 ?_ | refine qd3 ?_) | ((with_reducible apply tagR); first | refine qr1 ?_ | refine qr3 ?_)) | ((with_reducible apply tagN); first | ((with_reducible apply tagD); first | refine qd2 ?_ | refine qd4 ?_) | ((with_reducible apply tagR); first | refine qr2 ?_ | refine qr4 ?_)) | ((with_reducible apply tagW); first | refine qw1 ?_ | refine qw2 ?_ | refine qw3 ?_ | refine qw4 ?_ | refine qw5 ?_ | refine qw6 (fun hb => ?_) (fun hb => ?_) | refine qw7 ?_ | refine qw8 ?_ | refine qw9 ?_ | refine qw0 ?_) | refine thenQ_n ?_ | refine thenQ_e ?_ | refine thenQ_r ?_ | refine blockQ_n ?_ | refine blockQ_r ?_ | refine blockQ_hit ?_ | refine qb4 ?_ | refine qe ?_ | refine loopQ_e ?_ | refine loopQ_r ?_
    all_goals clear E
    have e1 : gath l0 = [] := by simp [gath, he, gat_one]
    have e2 : (gat l0).isSome = false := by simp [he, gat_one]
    rw [e1, e2]
    exact finQ_g (G_d []) (ret_a rfl)
  · have hlen : l0.length - i = r.length + 2 := by rw [← hdr, hr]; rfl
    obtain ⟨g0, hr1⟩ := drop_get (j := 0) hr
    obtain ⟨g1, hr2⟩ := drop_get (j := 0) hr1
    have h1 : (i : Int) < l0.length := by omega
    have h2 : ¬ (l0.length : Int) ≤ i + 1 := by omega
    have h3 : (i : Int) + 1 < l0.length := by omega
    have t1 : ((i : Int) + 1).toNat = i + 1 := by omega
    have w1 : IntKind.i64.wrap ((l0.length : Int) - i) = (l0.length : Int) - i := wrap_i64 (by omega) (by omega)
    by_cases hn1 : n < 0
    · have E := And.intro @h1 (And.intro @h2 (And.intro @h3 (And.intro @t1 (And.intro (ints_get g1) (@hn1)))))
      repeat' first | refine R_nil ?_ | ((with_reducible apply tagG); first | refine qg1 ?_ | refine qg2 ?_ | refine qg3 ?_ | refine qg4 ?_ | refine qg5 ?_ | refine qg6 (fun hb => ?_) (fun hb => ?_)) | ((with_reducible apply tagS); first | ((with_reducible apply tagD); first | refine qd1 ?_ | refine qd3 ?_) | ((with_reducible apply tagR); first | refine qr1 ?_ | refine qr3 ?_)) | ((with_reducible apply tagN); first | ((with_reducible apply tagD); first | refine qd2 ?_ | refine qd4 ?_) | ((with_reducible apply tagR); first | refine qr2 ?_ | refine qr4 ?_)) | ((with_reducible apply tagW); first | refine qw1 ?_ | refine qw2 ?_ | refine qw3 ?_ | refine qw4 ?_ | refine qw5 ?_ | refine qw6 (fun hb => ?_) (fun hb => ?_) | refine qw7 ?_ | refine qw8 ?_ | refine qw9 ?_ | refine qw0 ?_) | refine thenQ_n ?_ | refine thenQ_e ?_ | refine thenQ_r ?_ | refine blockQ_n ?_ | refine blockQ_r ?_ | refine blockQ_hit ?_ | refine qb4 ?_ | refine qe ?_ | refine loopQ_e ?_ | refine loopQ_r ?_
      all_goals clear E
      have e : gat l0 = none := by rw [he, hr, gat_bad _ _ _ (.inl hn1)]; rfl
      have e1 : gath l0 = [] := by simp [gath, e]
      rw [e1, e]
      exact finQ_g (G_d []) (ret_a rfl)
    by_cases hn2 : (l0.length : Int) - i - 2 < n
    · have E := And.intro @h1 (And.intro @h2 (And.intro @h3 (And.intro @t1 (And.intro (ints_get g1) (And.intro @hn1 (And.intro @w1 (@hn2)))))))
      repeat' first | refine R_nil ?_ | ((with_reducible apply tagG); first | refine qg1 ?_ | refine qg2 ?_ | refine qg3 ?_ | refine qg4 ?_ | refine qg5 ?_ | refine qg6 (fun hb => ?_) (fun hb => ?_)) | ((with_reducible apply tagS); first | ((with_reducible apply tagD); first | refine qd1 ?_ | refine qd3 ?_) | ((with_reducible apply tagR); first | refine qr1 ?_ | refine qr3 ?_)) | ((with_reducible apply tagN); first | ((with_reducible apply tagD); first | refine qd2 ?_ | refine qd4 ?_) | ((with_reducible apply tagR); first | refine qr2 ?_ | refine qr4 ?_)) | ((with_reducible apply tagW); first | refine qw1 ?_ | refine qw2 ?_ | refine qw3 ?_ | refine qw4 ?_ | refine qw5 ?_ | refine qw6 (fun hb => ?_) (fun hb => ?_) | refine qw7 ?_ | refine qw8 ?_ | refine qw9 ?_ | refine qw0 ?_) | refine thenQ_n ?_ | refine thenQ_e ?_ | refine thenQ_r ?_ | refine blockQ_n ?_ | refine blockQ_r ?_ | refine blockQ_hit ?_ | refine qb4 ?_ | refine qe ?_ | refine loopQ_e ?_ | refine loopQ_r ?_
      all_goals clear E
      have e : gat l0 = none := by rw [he, hr, gat_bad _ _ _ (.inr (by omega))]; rfl
      have e1 : gath l0 = [] := by simp [gath, e]
      rw [e1, e]
      exact finQ_g (G_d []) (ret_a rfl)
    obtain ⟨m, rfl⟩ : ∃ m : Nat, n = m := ⟨n.toNat, by omega⟩
    have E := And.intro @h1 (And.intro @h2 (And.intro @h3 (And.intro @t1 (And.intro (ints_get g0) (And.intro (ints_get g1) (And.intro @hn1 (And.intro @w1 (@hn2))))))))
    repeat' first | refine R_nil ?_ | ((with_reducible apply tagG); first | refine qg1 ?_ | refine qg2 ?_ | refine qg3 ?_ | refine qg4 ?_ | refine qg5 ?_ | refine qg6 (fun hb => ?_) (fun hb => ?_)) | ((with_reducible apply tagS); first | ((with_reducible apply tagD); first | refine qd1 ?_ | refine qd3 ?_) | ((with_reducible apply tagR); first | refine qr1 ?_ | refine qr3 ?_)) | ((with_reducible apply tagN); first | ((with_reducible apply tagD); first | refine qd2 ?_ | refine qd4 ?_) | ((with_reducible apply tagR); first | refine qr2 ?_ | refine qr4 ?_)) | ((with_reducible apply tagW); first | refine qw1 ?_ | refine qw2 ?_ | refine qw3 ?_ | refine qw4 ?_ | refine qw5 ?_ | refine qw6 (fun hb => ?_) (fun hb => ?_) | refine qw7 ?_ | refine qw8 ?_ | refine qw9 ?_ | refine qw0 ?_) | refine thenQ_n ?_ | refine thenQ_e ?_ | refine thenQ_r ?_ | refine blockQ_n ?_ | refine blockQ_r ?_ | refine blockQ_hit ?_ | refine qb4 ?_ | refine qe ?_ | refine loopQ_e ?_ | refine loopQ_r ?_
    all_goals clear E
    refine W_ghost (G_adoptB 6 1 61 1 rfl rfl rfl (.inr (by decide))) ?_
    refine W_loopQ (fun j : Nat => [(48, dInt j), (47, dInt m), (6, .ptr 6 0 0), (5, dInt i), (0, .d (.sl (ints l0))), (4, .ref 67 0 don.length)]) (fun j => [(6, some (.box [dInt p, .ref 61 0 (r.take j).length])), (61, some (.row 1 (ints (r.take j)))), (67, some (.row 2 (armsD don)))]) (fun j => m - j) (fun j => j ≤ m) 0 (by omega) qs fun j hj => ?_
    have hrl : (r.take j).length ≤ 1099511627776 := by rw [List.length_take]; omega
    have e1 : (ints (r.take j)).take (r.take j).length = ints (r.take j) := take_all _ _ (by omega)
    by_cases hjm : j < m
    · obtain ⟨y, hy⟩ := get_ex (show j < r.length by omega)
      have hj1 : (j : Int) < m := by omega
      have hy2 : l0[i + 2 + j]? = some y := by
        rw [← hr2, List.getElem?_drop] at hy
        rw [← hy]
      have t2 : ((i : Int) + 2 + j).toNat = i + 2 + j := by omega
      have h4 : (i : Int) + 2 + j < l0.length := by omega
      have e2 : r.take (j + 1) = r.take j ++ [y] := by rw [List.take_add_one, hy]; rfl
      have e3 : ints (r.take j) ++ [[DI y]] = ints (r.take j ++ [y]) := by simp [ints]
      generalize r.take j = A at *
      have E := And.intro @hj1 (And.intro @t2 (And.intro @h4 (And.intro (ints_get hy2) (And.intro @e1 (@e3)))))
      repeat' first | refine R_nil ?_ | ((with_reducible apply tagG); first | refine qg1 ?_ | refine qg2 ?_ | refine qg3 ?_ | refine qg4 ?_ | refine qg5 ?_ | refine qg6 (fun hb => ?_) (fun hb => ?_)) | ((with_reducible apply tagS); first | ((with_reducible apply tagD); first | refine qd1 ?_ | refine qd3 ?_) | ((with_reducible apply tagR); first | refine qr1 ?_ | refine qr3 ?_)) | ((with_reducible apply tagN); first | ((with_reducible apply tagD); first | refine qd2 ?_ | refine qd4 ?_) | ((with_reducible apply tagR); first | refine qr2 ?_ | refine qr4 ?_)) | ((with_reducible apply tagW); first | refine qw1 ?_ | refine qw2 ?_ | refine qw3 ?_ | refine qw4 ?_ | refine qw5 ?_ | refine qw6 (fun hb => ?_) (fun hb => ?_) | refine qw7 ?_ | refine qw8 ?_ | refine qw9 ?_ | refine qw0 ?_) | refine thenQ_n ?_ | refine thenQ_e ?_ | refine thenQ_r ?_ | refine blockQ_n ?_ | refine blockQ_r ?_ | refine blockQ_hit ?_ | refine qb4 ?_ | refine qe ?_ | refine loopQ_e ?_ | refine loopQ_r ?_
      all_goals clear E
      refine loopQ_n (j + 1) (by omega) (by omega) (by rw [e2]; exact qs)
    · have hj0 : ¬ (j : Int) < m := by omega
      have ej : j = m := by omega
      subst ej
      have hml : (r.take j).length = j := by rw [List.length_take]; omega
      have e2 : armsD don ++ [[DI p, D.sl (ints (r.take j))]] = armsD (don ++ [⟨p, r.take j⟩]) := by simp [armsD, Arm.row]
      have E := And.intro @hj0 (And.intro @h3 (And.intro @t1 (And.intro (ints_get g1) (And.intro @e0 (And.intro @e1 (@e2))))))
      repeat' first | refine R_nil ?_ | ((with_reducible apply tagG); first | refine qg1 ?_ | refine qg2 ?_ | refine qg3 ?_ | refine qg4 ?_ | refine qg5 ?_ | refine qg6 (fun hb => ?_) (fun hb => ?_)) | ((with_reducible apply tagS); first | ((with_reducible apply tagD); first | refine qd1 ?_ | refine qd3 ?_) | ((with_reducible apply tagR); first | refine qr1 ?_ | refine qr3 ?_)) | ((with_reducible apply tagN); first | ((with_reducible apply tagD); first | refine qd2 ?_ | refine qd4 ?_) | ((with_reducible apply tagR); first | refine qr2 ?_ | refine qr4 ?_)) | ((with_reducible apply tagW); first | refine qw1 ?_ | refine qw2 ?_ | refine qw3 ?_ | refine qw4 ?_ | refine qw5 ?_ | refine qw6 (fun hb => ?_) (fun hb => ?_) | refine qw7 ?_ | refine qw8 ?_ | refine qw9 ?_ | refine qw0 ?_) | refine thenQ_n ?_ | refine thenQ_e ?_ | refine thenQ_r ?_ | refine blockQ_n ?_ | refine blockQ_r ?_ | refine blockQ_hit ?_ | refine qb4 ?_ | refine qe ?_ | refine loopQ_e ?_ | refine loopQ_r ?_
      all_goals clear E
      refine loopQ_n (don ++ [⟨p, r.take j⟩], i + (2 + j)) (by dsimp only; omega) ⟨by dsimp only; omega, by simp; omega, ?_⟩ (by dsimp only; exact qs)
      dsimp only
      rw [he, hr, gat_cons _ _ _ (by omega), Int.toNat_natCast, ← hr2, List.drop_drop, show i + 1 + 1 + j = i + (2 + j) by omega]
      cases gat (List.drop (i + (2 + j)) l0) <;> simp
def armsR (i : Ins) : List Arm := if i.op = 16 ∧ 0 < i.args.length then gath (i.args.drop 1) else if i.op = 11 then gath i.args else []
theorem armsR_eq (i : Ins) : armsR i = armsOf i := by
  unfold armsR armsOf
  by_cases h11 : i.op = 11
  · rw [if_neg (by omega), if_pos h11, if_pos h11]
  · rw [if_neg h11, if_neg h11]
    by_cases h16 : i.op = 16
    · rw [if_pos h16]
      cases i.args with
      | nil => simp
      | cons x l => simp [h16]
    · rw [if_neg (by omega), if_neg h16]
theorem C48 (i : Ins) (hs : Sm i.args) : C Try.prog 48 [i.av] [] (.d (.sl (armsD (armsOf i)))) [] [] := by
  by_cases h16 : i.op = 16
  · have e16 : decide (i.op = 16) = true := by simp [h16]
    have e11 : decide (i.op = 11) = false := by simp [h16]
    cases ha : i.args with
    | nil =>
      have e : armsOf i = [] := by simp [armsOf, h16, ha]
      have hl : i.args.length = 0 := by rw [ha]; rfl
      rw [e]
      refine C_intro T_ok (rs := [.tmp 2]) Try.func48 rfl rfl rfl (Nat.le_of_ble_eq_true rfl) (Nat.le_of_ble_eq_true rfl) rfl ⟨rfl, rfl⟩ rfl fun cx hn => ?_
      have hn : cx.n = 27 := hn
      have Y := And.intro T3 (And.intro T23 (T60))
      simp only [enumA, enumO, Nat.reduceAdd]
      have E := And.intro @e16 (And.intro @e11 (@hl))
      repeat' first | refine R_nil ?_ | ((with_reducible apply tagG); first | refine qg1 ?_ | refine qg2 ?_ | refine qg3 ?_ | refine qg4 ?_ | refine qg5 ?_ | refine qg6 (fun hb => ?_) (fun hb => ?_)) | ((with_reducible apply tagS); first | ((with_reducible apply tagD); first | refine qd1 ?_ | refine qd3 ?_) | ((with_reducible apply tagR); first | refine qr1 ?_ | refine qr3 ?_)) | ((with_reducible apply tagN); first | ((with_reducible apply tagD); first | refine qd2 ?_ | refine qd4 ?_) | ((with_reducible apply tagR); first | refine qr2 ?_ | refine qr4 ?_)) | ((with_reducible apply tagW); first | refine qw1 ?_ | refine qw2 ?_ | refine qw3 ?_ | refine qw4 ?_ | refine qw5 ?_ | refine qw6 (fun hb => ?_) (fun hb => ?_) | refine qw7 ?_ | refine qw8 ?_ | refine qw9 ?_ | refine qw0 ?_) | refine thenQ_n ?_ | refine thenQ_e ?_ | refine thenQ_r ?_ | refine blockQ_n ?_ | refine blockQ_r ?_ | refine blockQ_hit ?_ | refine qb4 ?_ | refine qe ?_ | refine loopQ_e ?_ | refine loopQ_r ?_
      all_goals clear E
      exact ret_full rfl rfl
    | cons x l =>
      have e : armsOf i = gath l := by simp [armsOf, h16, ha]
      have hlen : i.args.length = l.length + 1 := by rw [ha]; rfl
      have h0 : (0 : Int) < i.args.length := by omega
      have d1 : ((ints i.args).drop 1).take (i.args.length - 1) = ints l := by
        rw [List.take_of_length_le (by simp [ints]), ha]; rfl
      have hC := C57 l (by show _ ≤ _; omega)
      rw [e]
      refine C_intro T_ok (rs := [.tmp 2]) Try.func48 rfl rfl rfl (Nat.le_of_ble_eq_true rfl) (Nat.le_of_ble_eq_true rfl) rfl ⟨rfl, rfl⟩ rfl fun cx hn => ?_
      have hn : cx.n = 27 := hn
      have Y := And.intro T3 (And.intro T23 (T60))
      simp only [enumA, enumO, Nat.reduceAdd]
      have E := And.intro @e16 (And.intro @e11 (And.intro @h0 (And.intro @d1 ((ints_rows i.args)))))
      repeat' first | refine R_nil ?_ | ((with_reducible apply tagG); first | refine qg1 ?_ | refine qg2 ?_ | refine qg3 ?_ | refine qg4 ?_ | refine qg5 ?_ | refine qg6 (fun hb => ?_) (fun hb => ?_)) | ((with_reducible apply tagK); first | ((with_reducible apply tagD); first | refine qd5 (hC) ?_) | ((with_reducible apply tagR); first | refine qr5 (hC) ?_)) | ((with_reducible apply tagS); first | ((with_reducible apply tagD); first | refine qd1 ?_ | refine qd3 ?_) | ((with_reducible apply tagR); first | refine qr1 ?_ | refine qr3 ?_)) | ((with_reducible apply tagN); first | ((with_reducible apply tagD); first | refine qd2 ?_ | refine qd4 ?_) | ((with_reducible apply tagR); first | refine qr2 ?_ | refine qr4 ?_)) | ((with_reducible apply tagW); first | refine qw1 ?_ | refine qw2 ?_ | refine qw3 ?_ | refine qw4 ?_ | refine qw5 ?_ | refine qw6 (fun hb => ?_) (fun hb => ?_) | refine qw7 ?_ | refine qw8 ?_ | refine qw9 ?_ | refine qw0 ?_) | refine thenQ_n ?_ | refine thenQ_e ?_ | refine thenQ_r ?_ | refine blockQ_n ?_ | refine blockQ_r ?_ | refine blockQ_hit ?_ | refine qb4 ?_ | refine qe ?_ | refine loopQ_e ?_ | refine loopQ_r ?_
      all_goals clear E
      exact ret_d rfl rfl
  · have e16 : decide (i.op = 16) = false := by simp [h16]
    by_cases h11 : i.op = 11
    · have e11 : decide (i.op = 11) = true := by simp [h11]
      have e : armsOf i = gath i.args := by simp [armsOf, h11]
      rw [e]
      refine C_intro T_ok (rs := [.tmp 2]) Try.func48 rfl rfl rfl (Nat.le_of_ble_eq_true rfl) (Nat.le_of_ble_eq_true rfl) rfl ⟨rfl, rfl⟩ rfl fun cx hn => ?_
      have hn : cx.n = 27 := hn
      have Y := And.intro T3 (And.intro T23 (T60))
      simp only [enumA, enumO, Nat.reduceAdd]
      have E := And.intro @e16 (@e11)
      repeat' first | refine R_nil ?_ | ((with_reducible apply tagG); first | refine qg1 ?_ | refine qg2 ?_ | refine qg3 ?_ | refine qg4 ?_ | refine qg5 ?_ | refine qg6 (fun hb => ?_) (fun hb => ?_)) | ((with_reducible apply tagK); first | ((with_reducible apply tagD); first | refine qd5 (C57 i.args hs) ?_) | ((with_reducible apply tagR); first | refine qr5 (C57 i.args hs) ?_)) | ((with_reducible apply tagS); first | ((with_reducible apply tagD); first | refine qd1 ?_ | refine qd3 ?_) | ((with_reducible apply tagR); first | refine qr1 ?_ | refine qr3 ?_)) | ((with_reducible apply tagN); first | ((with_reducible apply tagD); first | refine qd2 ?_ | refine qd4 ?_) | ((with_reducible apply tagR); first | refine qr2 ?_ | refine qr4 ?_)) | ((with_reducible apply tagW); first | refine qw1 ?_ | refine qw2 ?_ | refine qw3 ?_ | refine qw4 ?_ | refine qw5 ?_ | refine qw6 (fun hb => ?_) (fun hb => ?_) | refine qw7 ?_ | refine qw8 ?_ | refine qw9 ?_ | refine qw0 ?_) | refine thenQ_n ?_ | refine thenQ_e ?_ | refine thenQ_r ?_ | refine blockQ_n ?_ | refine blockQ_r ?_ | refine blockQ_hit ?_ | refine qb4 ?_ | refine qe ?_ | refine loopQ_e ?_ | refine loopQ_r ?_
      all_goals clear E
      exact ret_d rfl rfl
    · have e11 : decide (i.op = 11) = false := by simp [h11]
      have e : armsOf i = [] := by simp [armsOf, h11, h16]
      rw [e]
      refine C_intro T_ok (rs := [.tmp 2]) Try.func48 rfl rfl rfl (Nat.le_of_ble_eq_true rfl) (Nat.le_of_ble_eq_true rfl) rfl ⟨rfl, rfl⟩ rfl fun cx hn => ?_
      have hn : cx.n = 27 := hn
      have Y := And.intro T3 (And.intro T23 (T60))
      simp only [enumA, enumO, Nat.reduceAdd]
      have E := And.intro @e16 (@e11)
      repeat' first | refine R_nil ?_ | ((with_reducible apply tagG); first | refine qg1 ?_ | refine qg2 ?_ | refine qg3 ?_ | refine qg4 ?_ | refine qg5 ?_ | refine qg6 (fun hb => ?_) (fun hb => ?_)) | ((with_reducible apply tagS); first | ((with_reducible apply tagD); first | refine qd1 ?_ | refine qd3 ?_) | ((with_reducible apply tagR); first | refine qr1 ?_ | refine qr3 ?_)) | ((with_reducible apply tagN); first | ((with_reducible apply tagD); first | refine qd2 ?_ | refine qd4 ?_) | ((with_reducible apply tagR); first | refine qr2 ?_ | refine qr4 ?_)) | ((with_reducible apply tagW); first | refine qw1 ?_ | refine qw2 ?_ | refine qw3 ?_ | refine qw4 ?_ | refine qw5 ?_ | refine qw6 (fun hb => ?_) (fun hb => ?_) | refine qw7 ?_ | refine qw8 ?_ | refine qw9 ?_ | refine qw0 ?_) | refine thenQ_n ?_ | refine thenQ_e ?_ | refine thenQ_r ?_ | refine blockQ_n ?_ | refine blockQ_r ?_ | refine blockQ_hit ?_ | refine qb4 ?_ | refine qe ?_ | refine loopQ_e ?_ | refine loopQ_r ?_
      all_goals clear E
      exact ret_full rfl rfl
end Go.Pw
