/- Functions: whether arms fit their patterns. -/
import Derived.Test.YtppebcfhhoggiaaQF7
set_option linter.unusedVariables false
set_option linter.unusedSimpArgs false
namespace Go.Pw
open Go Go.Proofs
attribute [local irreducible] runL W endD thenQ blockQ loopQ
set_option maxRecDepth 4000
set_option maxHeartbeats 2000000
def lateOk (i : Ins) : Bool := match i.args with
  | [] => false
  | x :: _ => !decide (i.c < -1) && (decide (0 ≤ x) == decide (0 ≤ i.c)) && !decide (x < -1)
def armFit (l : List Arm) (ps : List Pat) : Bool := decide (l.length = ps.length) && (l.zip ps).all fun p => decide ((p.1.regs.length : Int) = bindsOf p.2)
def listFit (l : List Int) (ps : List Pat) : Bool := match gat l with
  | none => false
  | some r => armFit r ps
def armsB (i : Ins) (ps : List Pat) : Bool := if i.op = 16 then lateOk i && listFit (i.args.drop 1) ps else listFit i.args ps
theorem C75 (c : Cod) (i : Ins) (ps : List Pat) (hs : Sm i.args) (hb0 : 0 ≤ i.b) (hp : c.pats[i.b.toNat]? = some ps) (hz : psizes ps ≤ 1099511627776) : C Try.prog 75 [c.av, i.av] [] (dBool (armsB i ps)) [] [] := by
  have hblt : i.b < c.pats.length := by have := (List.getElem?_eq_some_iff.1 hp).1; omega
  have hpl := psizes_len ps
  by_cases h16 : i.op = 16
  · have e16 : decide (i.op = 16) = true := by simp [h16]
    by_cases hl0 : i.args.length = 0
    · have hl : i.args = [] := List.eq_nil_of_length_eq_zero hl0
      have e0 : decide ((i.args.length : Int) = 0) = true := by simp [hl0]
      refine C_intro T_ok (rs := [.tmp 4]) Try.func75 rfl rfl rfl (Nat.le_of_ble_eq_true rfl) (Nat.le_of_ble_eq_true rfl) rfl ⟨rfl, rfl⟩ rfl fun cx hn => ?_
      have hn : cx.n = 82 := hn
      have Y := And.intro T3 (And.intro T4 (And.intro T9 (And.intro T22 (And.intro T23 (And.intro T24 (And.intro T25 (And.intro T26 (And.intro T27 (And.intro T28 (And.intro T30 (And.intro T36 (And.intro T38 (And.intro T40 (And.intro T60 (And.intro T61 (And.intro T63 (And.intro T67 (And.intro T75 (And.intro T77 (And.intro T95 (T98)))))))))))))))))))))
      simp only [enumA, enumO, Nat.reduceAdd]
      have E := And.intro @e16 (@e0)
      repeat' first | refine R_nil ?_ | ((with_reducible apply tagG); first | refine qg1 ?_ | refine qg2 ?_ | refine qg3 ?_ | refine qg4 ?_ | refine qg5 ?_ | refine qg6 (fun hb => ?_) (fun hb => ?_)) | ((with_reducible apply tagS); first | ((with_reducible apply tagD); first | refine qd1 ?_ | refine qd3 ?_) | ((with_reducible apply tagR); first | refine qr1 ?_ | refine qr3 ?_)) | ((with_reducible apply tagN); first | ((with_reducible apply tagD); first | refine qd2 ?_ | refine qd4 ?_) | ((with_reducible apply tagR); first | refine qr2 ?_ | refine qr4 ?_)) | ((with_reducible apply tagW); first | refine qw1 ?_ | refine qw2 ?_ | refine qw3 ?_ | refine qw4 ?_ | refine qw5 ?_ | refine qw6 (fun hb => ?_) (fun hb => ?_) | refine qw7 ?_ | refine qw8 ?_ | refine qw9 ?_ | refine qw0 ?_) | refine thenQ_n ?_ | refine thenQ_e ?_ | refine thenQ_r ?_ | refine blockQ_n ?_ | refine blockQ_r ?_ | refine blockQ_hit ?_ | refine qb4 ?_ | refine qe ?_ | refine loopQ_e ?_ | refine loopQ_r ?_
      all_goals clear E
      exact ret_d rfl (by simp [armsB, h16, lateOk, hl])
    · obtain ⟨y, hy⟩ := get_ex (show 0 < i.args.length by omega)
      have e0 : decide ((i.args.length : Int) = 0) = false := by rw [decide_eq_false_iff_not]; omega
      have hl1 : (0:Int) < (i.args.length : Int) := by omega
      have t0 : Int.toNat 0 = 0 := rfl
      have t1 : Int.toNat 1 = 1 := rfl
      have hlate : lateOk i = (!decide (i.c < -1) && (decide (0 ≤ y) == decide (0 ≤ i.c)) && !decide (y < -1)) := by
        cases hl : i.args with
        | nil => rw [hl] at hl0; simp at hl0
        | cons z l => rw [hl] at hy; simp at hy; subst hy; simp [lateOk, hl]
      obtain ⟨L, hLe⟩ : ∃ L, L = i.args.drop 1 := ⟨_, rfl⟩
      have hE : armsB i ps = (lateOk i && listFit L ps) := by rw [hLe]; simp [armsB, h16]
      have hL : Sm L := by show L.length ≤ _; rw [hLe, List.length_drop]; omega
      have d1 : ((ints i.args).drop 1).take (i.args.length - 1) = ints L := by
        rw [List.take_of_length_le (by simp [ints]), ints_drop, hLe]
      refine C_intro T_ok (rs := [.tmp 4]) Try.func75 rfl rfl rfl (Nat.le_of_ble_eq_true rfl) (Nat.le_of_ble_eq_true rfl) rfl ⟨rfl, rfl⟩ rfl fun cx hn => ?_
      have hn : cx.n = 82 := hn
      have Y := And.intro T3 (And.intro T4 (And.intro T9 (And.intro T22 (And.intro T23 (And.intro T24 (And.intro T25 (And.intro T26 (And.intro T27 (And.intro T28 (And.intro T30 (And.intro T36 (And.intro T38 (And.intro T40 (And.intro T60 (And.intro T61 (And.intro T63 (And.intro T67 (And.intro T75 (And.intro T77 (And.intro T95 (T98)))))))))))))))))))))
      simp only [enumA, enumO, Nat.reduceAdd]
      have E := And.intro @e16 (And.intro @e0 (And.intro @hl1 (And.intro (ints_get hy) (And.intro @t0 (And.intro @t1 (@d1))))))
      repeat' first | refine R_nil ?_ | ((with_reducible apply tagG); first | refine qg1 ?_ | refine qg2 ?_ | refine qg3 ?_ | refine qg4 ?_ | refine qg5 ?_ | refine qg6 (fun hb => ?_) (fun hb => ?_)) | ((with_reducible apply tagS); first | ((with_reducible apply tagD); first | refine qd1 ?_ | refine qd3 ?_) | ((with_reducible apply tagR); first | refine qr1 ?_ | refine qr3 ?_)) | ((with_reducible apply tagN); first | ((with_reducible apply tagD); first | refine qd2 ?_ | refine qd4 ?_) | ((with_reducible apply tagR); first | refine qr2 ?_ | refine qr4 ?_)) | ((with_reducible apply tagW); first | refine qw1 ?_ | refine qw2 ?_ | refine qw3 ?_ | refine qw4 ?_ | refine qw5 ?_ | refine qw6 (fun hb => ?_) (fun hb => ?_) | refine qw7 ?_ | refine qw8 ?_ | refine qw9 ?_ | refine qw0 ?_) | refine thenQ_n ?_ | refine thenQ_e ?_ | refine thenQ_r ?_ | refine blockQ_n ?_ | refine blockQ_r ?_ | refine blockQ_hit ?_ | refine qb4 ?_ | refine qe ?_ | refine loopQ_e ?_ | refine loopQ_r ?_
      all_goals clear E
      · exact ret_d rfl (by rw [hE, hlate]; simp_all)
      · exact ret_d rfl (by rw [hE, hlate]; simp_all)
      · exact ret_d rfl (by rw [hE, hlate]; simp_all)
      · have hE : armsB i ps = listFit L ps := by rw [hE, hlate]; clear hLe; simp_all
        clear hLe
        by_cases hg : gat (L) = none
        · have g1 : gath (L) = [] := by simp [gath, hg]
          have g2 : gerr (L) = 3 := by simp [gerr, hg]
          have E := And.intro @e16 (@g2)
          repeat' first | refine R_nil ?_ | ((with_reducible apply tagG); first | refine qg1 ?_ | refine qg2 ?_ | refine qg3 ?_ | refine qg4 ?_ | refine qg5 ?_ | refine qg6 (fun hb => ?_) (fun hb => ?_)) | ((with_reducible apply tagK); first | ((with_reducible apply tagD); first | refine qd6 [] (C72 (L) hL) ?_) | ((with_reducible apply tagR); first | refine qr6 [] (C72 (L) hL) ?_)) | ((with_reducible apply tagS); first | ((with_reducible apply tagD); first | refine qd1 ?_ | refine qd3 ?_) | ((with_reducible apply tagR); first | refine qr1 ?_ | refine qr3 ?_)) | ((with_reducible apply tagN); first | ((with_reducible apply tagD); first | refine qd2 ?_ | refine qd4 ?_) | ((with_reducible apply tagR); first | refine qr2 ?_ | refine qr4 ?_)) | ((with_reducible apply tagW); first | refine qw1 ?_ | refine qw2 ?_ | refine qw3 ?_ | refine qw4 ?_ | refine qw5 ?_ | refine qw6 (fun hb => ?_) (fun hb => ?_) | refine qw7 ?_ | refine qw8 ?_ | refine qw9 ?_ | refine qw0 ?_) | refine thenQ_n ?_ | refine thenQ_e ?_ | refine thenQ_r ?_ | refine blockQ_n ?_ | refine blockQ_r ?_ | refine blockQ_hit ?_ | refine qb4 ?_ | refine qe ?_ | refine loopQ_e ?_ | refine loopQ_r ?_
          all_goals clear E
          exact ret_d rfl (by rw [hE]; simp [listFit, hg])
        obtain ⟨r, hr⟩ := Option.ne_none_iff_exists'.1 hg
        have g1 : gath (L) = r := by simp [gath, hr]
        have g2 : gerr (L) = 0 := by simp [gerr, hr]
        have hrl : r.length ≤ (L).length := by rw [← g1]; exact gath_len _
        by_cases hlen : r.length = ps.length
        · have eL : decide ((r.length : Int) = (ps.length : Int)) = true := by simp [hlen]
          have E := And.intro @e16 (And.intro @g1 (And.intro @g2 (And.intro (patss_get hp) (@eL))))
          repeat' first | refine R_nil ?_ | ((with_reducible apply tagG); first | refine qg1 ?_ | refine qg2 ?_ | refine qg3 ?_ | refine qg4 ?_ | refine qg5 ?_ | refine qg6 (fun hb => ?_) (fun hb => ?_)) | ((with_reducible apply tagK); first | ((with_reducible apply tagD); first | refine qd6 [] (C72 (L) hL) ?_) | ((with_reducible apply tagR); first | refine qr6 [] (C72 (L) hL) ?_)) | ((with_reducible apply tagS); first | ((with_reducible apply tagD); first | refine qd1 ?_ | refine qd3 ?_) | ((with_reducible apply tagR); first | refine qr1 ?_ | refine qr3 ?_)) | ((with_reducible apply tagN); first | ((with_reducible apply tagD); first | refine qd2 ?_ | refine qd4 ?_) | ((with_reducible apply tagR); first | refine qr2 ?_ | refine qr4 ?_)) | ((with_reducible apply tagW); first | refine qw1 ?_ | refine qw2 ?_ | refine qw3 ?_ | refine qw4 ?_ | refine qw5 ?_ | refine qw6 (fun hb => ?_) (fun hb => ?_) | refine qw7 ?_ | refine qw8 ?_ | refine qw9 ?_ | refine qw0 ?_) | refine thenQ_n ?_ | refine thenQ_e ?_ | refine thenQ_r ?_ | refine blockQ_n ?_ | refine blockQ_r ?_ | refine blockQ_hit ?_ | refine qb4 ?_ | refine qe ?_ | refine loopQ_e ?_ | refine loopQ_r ?_
          all_goals clear E
          refine W_loopQ (fun k : Nat => [(62, dInt k), (61, dInt r.length), (60, .ref 2344 0 r.length), (2, .ptr 2 0 0), (3, .ptr 3 0 0)]) (fun k => [(2344, some (.row 2 (armsD r))), (2, some (.box c.cells)), (3, some (.box i.cells))]) (fun k => r.length - k) (fun k => k ≤ r.length ∧ ((r.zip ps).all fun p => decide ((p.1.regs.length : Int) = bindsOf p.2)) = (((r.drop k).zip (ps.drop k)).all fun p => decide ((p.1.regs.length : Int) = bindsOf p.2))) 0 ⟨by omega, rfl⟩ (by have E := @g1; exact qs) fun k ⟨hk, he⟩ => ?_
          by_cases h : k < r.length
          · obtain ⟨x, hx⟩ := get_ex h
            obtain ⟨y, hy⟩ := get_ex (show k < ps.length by omega)
            have h1 : (k:Int) < r.length := by omega
            have h2 : (k:Int) < ps.length := by omega
            have hys := psizes_get hy
            have t1 : (List.take r.length (armsD r)) = armsD r := List.take_of_length_le (by rw [armsD_len]; omega)
            have E := And.intro @h1 (And.intro @h2 (And.intro (armsD_get hx) (And.intro (patss_get hp) (And.intro (patsD_get hy) (@t1)))))
            repeat' first | refine R_nil ?_ | ((with_reducible apply tagG); first | refine qg1 ?_ | refine qg2 ?_ | refine qg3 ?_ | refine qg4 ?_ | refine qg5 ?_ | refine qg6 (fun hb => ?_) (fun hb => ?_)) | ((with_reducible apply tagK); first | ((with_reducible apply tagD); first | refine qd5 (C76 y (by omega)) ?_) | ((with_reducible apply tagR); first | refine qr5 (C76 y (by omega)) ?_)) | ((with_reducible apply tagS); first | ((with_reducible apply tagD); first | refine qd1 ?_ | refine qd3 ?_) | ((with_reducible apply tagR); first | refine qr1 ?_ | refine qr3 ?_)) | ((with_reducible apply tagN); first | ((with_reducible apply tagD); first | refine qd2 ?_ | refine qd4 ?_) | ((with_reducible apply tagR); first | refine qr2 ?_ | refine qr4 ?_)) | ((with_reducible apply tagW); first | refine qw1 ?_ | refine qw2 ?_ | refine qw3 ?_ | refine qw4 ?_ | refine qw5 ?_ | refine qw6 (fun hb => ?_) (fun hb => ?_) | refine qw7 ?_ | refine qw8 ?_ | refine qw9 ?_ | refine qw0 ?_) | refine thenQ_n ?_ | refine thenQ_e ?_ | refine thenQ_r ?_ | refine blockQ_n ?_ | refine blockQ_r ?_ | refine blockQ_hit ?_ | refine qb4 ?_ | refine qe ?_ | refine loopQ_e ?_ | refine loopQ_r ?_
            all_goals clear E
            · refine ret_d rfl ?_
              rw [hE]; simp only [listFit, hr, armFit]; rw [he, drop_some hx, drop_some hy]; simp_all
            · refine loopQ_n (k + 1) (by omega) ⟨by omega, ?_⟩ qs
              rw [he, drop_some hx, drop_some hy]; simp_all
          · have h1 : ¬ (k:Int) < r.length := by omega
            have E := @h1
            repeat' first | refine R_nil ?_ | ((with_reducible apply tagG); first | refine qg1 ?_ | refine qg2 ?_ | refine qg3 ?_ | refine qg4 ?_ | refine qg5 ?_ | refine qg6 (fun hb => ?_) (fun hb => ?_)) | ((with_reducible apply tagS); first | ((with_reducible apply tagD); first | refine qd1 ?_ | refine qd3 ?_) | ((with_reducible apply tagR); first | refine qr1 ?_ | refine qr3 ?_)) | ((with_reducible apply tagN); first | ((with_reducible apply tagD); first | refine qd2 ?_ | refine qd4 ?_) | ((with_reducible apply tagR); first | refine qr2 ?_ | refine qr4 ?_)) | ((with_reducible apply tagW); first | refine qw1 ?_ | refine qw2 ?_ | refine qw3 ?_ | refine qw4 ?_ | refine qw5 ?_ | refine qw6 (fun hb => ?_) (fun hb => ?_) | refine qw7 ?_ | refine qw8 ?_ | refine qw9 ?_ | refine qw0 ?_) | refine thenQ_n ?_ | refine thenQ_e ?_ | refine thenQ_r ?_ | refine blockQ_n ?_ | refine blockQ_r ?_ | refine blockQ_hit ?_ | refine qb4 ?_ | refine qe ?_ | refine loopQ_e ?_ | refine loopQ_r ?_
            all_goals clear E
            refine ret_d rfl ?_
            rw [hE]; simp only [listFit, hr, armFit]; rw [he, drop_none h]; simp [hlen]
        · have hlen' : ¬ (r.length : Int) = (ps.length : Int) := by omega
          have E := And.intro @e16 (And.intro @g1 (And.intro @g2 (And.intro (patss_get hp) (@hlen'))))
          repeat' first | refine R_nil ?_ | ((with_reducible apply tagG); first | refine qg1 ?_ | refine qg2 ?_ | refine qg3 ?_ | refine qg4 ?_ | refine qg5 ?_ | refine qg6 (fun hb => ?_) (fun hb => ?_)) | ((with_reducible apply tagK); first | ((with_reducible apply tagD); first | refine qd6 [] (C72 (L) hL) ?_) | ((with_reducible apply tagR); first | refine qr6 [] (C72 (L) hL) ?_)) | ((with_reducible apply tagS); first | ((with_reducible apply tagD); first | refine qd1 ?_ | refine qd3 ?_) | ((with_reducible apply tagR); first | refine qr1 ?_ | refine qr3 ?_)) | ((with_reducible apply tagN); first | ((with_reducible apply tagD); first | refine qd2 ?_ | refine qd4 ?_) | ((with_reducible apply tagR); first | refine qr2 ?_ | refine qr4 ?_)) | ((with_reducible apply tagW); first | refine qw1 ?_ | refine qw2 ?_ | refine qw3 ?_ | refine qw4 ?_ | refine qw5 ?_ | refine qw6 (fun hb => ?_) (fun hb => ?_) | refine qw7 ?_ | refine qw8 ?_ | refine qw9 ?_ | refine qw0 ?_) | refine thenQ_n ?_ | refine thenQ_e ?_ | refine thenQ_r ?_ | refine blockQ_n ?_ | refine blockQ_r ?_ | refine blockQ_hit ?_ | refine qb4 ?_ | refine qe ?_ | refine loopQ_e ?_ | refine loopQ_r ?_
          all_goals clear E
          exact ret_d rfl (by rw [hE]; simp [listFit, hr, armFit, hlen])
  · have hE : armsB i ps = listFit i.args ps := by simp [armsB, h16]
    have hL := hs
    have e16 : decide (i.op = 16) = false := by simp [h16]
    refine C_intro T_ok (rs := [.tmp 4]) Try.func75 rfl rfl rfl (Nat.le_of_ble_eq_true rfl) (Nat.le_of_ble_eq_true rfl) rfl ⟨rfl, rfl⟩ rfl fun cx hn => ?_
    have hn : cx.n = 82 := hn
    have Y := And.intro T3 (And.intro T4 (And.intro T9 (And.intro T22 (And.intro T23 (And.intro T24 (And.intro T25 (And.intro T26 (And.intro T27 (And.intro T28 (And.intro T30 (And.intro T36 (And.intro T38 (And.intro T40 (And.intro T60 (And.intro T61 (And.intro T63 (And.intro T67 (And.intro T75 (And.intro T77 (And.intro T95 (T98)))))))))))))))))))))
    simp only [enumA, enumO, Nat.reduceAdd]
    by_cases hg : gat (i.args) = none
    · have g1 : gath (i.args) = [] := by simp [gath, hg]
      have g2 : gerr (i.args) = 3 := by simp [gerr, hg]
      have E := And.intro @e16 (@g2)
      repeat' first | refine R_nil ?_ | ((with_reducible apply tagG); first | refine qg1 ?_ | refine qg2 ?_ | refine qg3 ?_ | refine qg4 ?_ | refine qg5 ?_ | refine qg6 (fun hb => ?_) (fun hb => ?_)) | ((with_reducible apply tagK); first | ((with_reducible apply tagD); first | refine qd6 [] (C72 (i.args) hL) ?_) | ((with_reducible apply tagR); first | refine qr6 [] (C72 (i.args) hL) ?_)) | ((with_reducible apply tagS); first | ((with_reducible apply tagD); first | refine qd1 ?_ | refine qd3 ?_) | ((with_reducible apply tagR); first | refine qr1 ?_ | refine qr3 ?_)) | ((with_reducible apply tagN); first | ((with_reducible apply tagD); first | refine qd2 ?_ | refine qd4 ?_) | ((with_reducible apply tagR); first | refine qr2 ?_ | refine qr4 ?_)) | ((with_reducible apply tagW); first | refine qw1 ?_ | refine qw2 ?_ | refine qw3 ?_ | refine qw4 ?_ | refine qw5 ?_ | refine qw6 (fun hb => ?_) (fun hb => ?_) | refine qw7 ?_ | refine qw8 ?_ | refine qw9 ?_ | refine qw0 ?_) | refine thenQ_n ?_ | refine thenQ_e ?_ | refine thenQ_r ?_ | refine blockQ_n ?_ | refine blockQ_r ?_ | refine blockQ_hit ?_ | refine qb4 ?_ | refine qe ?_ | refine loopQ_e ?_ | refine loopQ_r ?_
      all_goals clear E
      exact ret_d rfl (by rw [hE]; simp [listFit, hg])
    obtain ⟨r, hr⟩ := Option.ne_none_iff_exists'.1 hg
    have g1 : gath (i.args) = r := by simp [gath, hr]
    have g2 : gerr (i.args) = 0 := by simp [gerr, hr]
    have hrl : r.length ≤ (i.args).length := by rw [← g1]; exact gath_len _
    by_cases hlen : r.length = ps.length
    · have eL : decide ((r.length : Int) = (ps.length : Int)) = true := by simp [hlen]
      have E := And.intro @e16 (And.intro @g1 (And.intro @g2 (And.intro (patss_get hp) (@eL))))
      repeat' first | refine R_nil ?_ | ((with_reducible apply tagG); first | refine qg1 ?_ | refine qg2 ?_ | refine qg3 ?_ | refine qg4 ?_ | refine qg5 ?_ | refine qg6 (fun hb => ?_) (fun hb => ?_)) | ((with_reducible apply tagK); first | ((with_reducible apply tagD); first | refine qd6 [] (C72 (i.args) hL) ?_) | ((with_reducible apply tagR); first | refine qr6 [] (C72 (i.args) hL) ?_)) | ((with_reducible apply tagS); first | ((with_reducible apply tagD); first | refine qd1 ?_ | refine qd3 ?_) | ((with_reducible apply tagR); first | refine qr1 ?_ | refine qr3 ?_)) | ((with_reducible apply tagN); first | ((with_reducible apply tagD); first | refine qd2 ?_ | refine qd4 ?_) | ((with_reducible apply tagR); first | refine qr2 ?_ | refine qr4 ?_)) | ((with_reducible apply tagW); first | refine qw1 ?_ | refine qw2 ?_ | refine qw3 ?_ | refine qw4 ?_ | refine qw5 ?_ | refine qw6 (fun hb => ?_) (fun hb => ?_) | refine qw7 ?_ | refine qw8 ?_ | refine qw9 ?_ | refine qw0 ?_) | refine thenQ_n ?_ | refine thenQ_e ?_ | refine thenQ_r ?_ | refine blockQ_n ?_ | refine blockQ_r ?_ | refine blockQ_hit ?_ | refine qb4 ?_ | refine qe ?_ | refine loopQ_e ?_ | refine loopQ_r ?_
      all_goals clear E
      refine W_loopQ (fun k : Nat => [(62, dInt k), (61, dInt r.length), (60, .ref 2344 0 r.length), (2, .ptr 2 0 0), (3, .ptr 3 0 0)]) (fun k => [(2344, some (.row 2 (armsD r))), (2, some (.box c.cells)), (3, some (.box i.cells))]) (fun k => r.length - k) (fun k => k ≤ r.length ∧ ((r.zip ps).all fun p => decide ((p.1.regs.length : Int) = bindsOf p.2)) = (((r.drop k).zip (ps.drop k)).all fun p => decide ((p.1.regs.length : Int) = bindsOf p.2))) 0 ⟨by omega, rfl⟩ (by have E := @g1; exact qs) fun k ⟨hk, he⟩ => ?_
      by_cases h : k < r.length
      · obtain ⟨x, hx⟩ := get_ex h
        obtain ⟨y, hy⟩ := get_ex (show k < ps.length by omega)
        have h1 : (k:Int) < r.length := by omega
        have h2 : (k:Int) < ps.length := by omega
        have hys := psizes_get hy
        have t1 : (List.take r.length (armsD r)) = armsD r := List.take_of_length_le (by rw [armsD_len]; omega)
        have E := And.intro @h1 (And.intro @h2 (And.intro (armsD_get hx) (And.intro (patss_get hp) (And.intro (patsD_get hy) (@t1)))))
        repeat' first | refine R_nil ?_ | ((with_reducible apply tagG); first | refine qg1 ?_ | refine qg2 ?_ | refine qg3 ?_ | refine qg4 ?_ | refine qg5 ?_ | refine qg6 (fun hb => ?_) (fun hb => ?_)) | ((with_reducible apply tagK); first | ((with_reducible apply tagD); first | refine qd5 (C76 y (by omega)) ?_) | ((with_reducible apply tagR); first | refine qr5 (C76 y (by omega)) ?_)) | ((with_reducible apply tagS); first | ((with_reducible apply tagD); first | refine qd1 ?_ | refine qd3 ?_) | ((with_reducible apply tagR); first | refine qr1 ?_ | refine qr3 ?_)) | ((with_reducible apply tagN); first | ((with_reducible apply tagD); first | refine qd2 ?_ | refine qd4 ?_) | ((with_reducible apply tagR); first | refine qr2 ?_ | refine qr4 ?_)) | ((with_reducible apply tagW); first | refine qw1 ?_ | refine qw2 ?_ | refine qw3 ?_ | refine qw4 ?_ | refine qw5 ?_ | refine qw6 (fun hb => ?_) (fun hb => ?_) | refine qw7 ?_ | refine qw8 ?_ | refine qw9 ?_ | refine qw0 ?_) | refine thenQ_n ?_ | refine thenQ_e ?_ | refine thenQ_r ?_ | refine blockQ_n ?_ | refine blockQ_r ?_ | refine blockQ_hit ?_ | refine qb4 ?_ | refine qe ?_ | refine loopQ_e ?_ | refine loopQ_r ?_
        all_goals clear E
        · refine ret_d rfl ?_
          rw [hE]; simp only [listFit, hr, armFit]; rw [he, drop_some hx, drop_some hy]; simp_all
        · refine loopQ_n (k + 1) (by omega) ⟨by omega, ?_⟩ qs
          rw [he, drop_some hx, drop_some hy]; simp_all
      · have h1 : ¬ (k:Int) < r.length := by omega
        have E := @h1
        repeat' first | refine R_nil ?_ | ((with_reducible apply tagG); first | refine qg1 ?_ | refine qg2 ?_ | refine qg3 ?_ | refine qg4 ?_ | refine qg5 ?_ | refine qg6 (fun hb => ?_) (fun hb => ?_)) | ((with_reducible apply tagS); first | ((with_reducible apply tagD); first | refine qd1 ?_ | refine qd3 ?_) | ((with_reducible apply tagR); first | refine qr1 ?_ | refine qr3 ?_)) | ((with_reducible apply tagN); first | ((with_reducible apply tagD); first | refine qd2 ?_ | refine qd4 ?_) | ((with_reducible apply tagR); first | refine qr2 ?_ | refine qr4 ?_)) | ((with_reducible apply tagW); first | refine qw1 ?_ | refine qw2 ?_ | refine qw3 ?_ | refine qw4 ?_ | refine qw5 ?_ | refine qw6 (fun hb => ?_) (fun hb => ?_) | refine qw7 ?_ | refine qw8 ?_ | refine qw9 ?_ | refine qw0 ?_) | refine thenQ_n ?_ | refine thenQ_e ?_ | refine thenQ_r ?_ | refine blockQ_n ?_ | refine blockQ_r ?_ | refine blockQ_hit ?_ | refine qb4 ?_ | refine qe ?_ | refine loopQ_e ?_ | refine loopQ_r ?_
        all_goals clear E
        refine ret_d rfl ?_
        rw [hE]; simp only [listFit, hr, armFit]; rw [he, drop_none h]; simp [hlen]
    · have hlen' : ¬ (r.length : Int) = (ps.length : Int) := by omega
      have E := And.intro @e16 (And.intro @g1 (And.intro @g2 (And.intro (patss_get hp) (@hlen'))))
      repeat' first | refine R_nil ?_ | ((with_reducible apply tagG); first | refine qg1 ?_ | refine qg2 ?_ | refine qg3 ?_ | refine qg4 ?_ | refine qg5 ?_ | refine qg6 (fun hb => ?_) (fun hb => ?_)) | ((with_reducible apply tagK); first | ((with_reducible apply tagD); first | refine qd6 [] (C72 (i.args) hL) ?_) | ((with_reducible apply tagR); first | refine qr6 [] (C72 (i.args) hL) ?_)) | ((with_reducible apply tagS); first | ((with_reducible apply tagD); first | refine qd1 ?_ | refine qd3 ?_) | ((with_reducible apply tagR); first | refine qr1 ?_ | refine qr3 ?_)) | ((with_reducible apply tagN); first | ((with_reducible apply tagD); first | refine qd2 ?_ | refine qd4 ?_) | ((with_reducible apply tagR); first | refine qr2 ?_ | refine qr4 ?_)) | ((with_reducible apply tagW); first | refine qw1 ?_ | refine qw2 ?_ | refine qw3 ?_ | refine qw4 ?_ | refine qw5 ?_ | refine qw6 (fun hb => ?_) (fun hb => ?_) | refine qw7 ?_ | refine qw8 ?_ | refine qw9 ?_ | refine qw0 ?_) | refine thenQ_n ?_ | refine thenQ_e ?_ | refine thenQ_r ?_ | refine blockQ_n ?_ | refine blockQ_r ?_ | refine blockQ_hit ?_ | refine qb4 ?_ | refine qe ?_ | refine loopQ_e ?_ | refine loopQ_r ?_
      all_goals clear E
      exact ret_d rfl (by rw [hE]; simp [listFit, hr, armFit, hlen])
end Go.Pw
