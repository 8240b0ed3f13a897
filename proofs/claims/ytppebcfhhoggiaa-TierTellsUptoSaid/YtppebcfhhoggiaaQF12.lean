/- Functions: what is wrong with an instruction (4). -/
import Derived.Test.YtppebcfhhoggiaaQF10
set_option linter.unusedVariables false
set_option linter.unusedSimpArgs false
namespace Go.Pw
open Go Go.Proofs
attribute [local irreducible] runL W endD thenQ blockQ loopQ
set_option maxRecDepth 8000
set_option maxHeartbeats 4000000
theorem C71_11 (c : Cod) (f : Fn) (i : Ins) (hs : Sm i.args) (hz : ∀ ps ∈ c.pats, psizes ps ≤ 1099511627776) (h : i.op = 11) : C Try.prog 71 [c.av, f.av, i.av] [] (dInt (if insOk c i then 0 else 3)) [] [] := by
  have ne := neq_of h
  have e : decide (i.op = 11) = true := by simp [h]
  by_cases h0 : 0 ≤ i.b
  · have f0 : decide (0 ≤ i.b) = true := by simp [h0]
    by_cases h1 : i.b < c.pats.length
    · have f1 : decide (i.b < (c.pats.length : Int)) = true := by simp [h1]
      obtain ⟨g, hg⟩ := get_ex (show i.b.toNat < c.pats.length by omega)
      refine C_intro T_ok (rs := [.tmp 6]) Try.func71 rfl rfl rfl (Nat.le_of_ble_eq_true rfl) (Nat.le_of_ble_eq_true rfl) rfl ⟨rfl, rfl⟩ rfl fun cx hn => ?_
      have hn : cx.n = 206 := hn
      have Y := And.intro T3 (And.intro T4 (And.intro T9 (And.intro T22 (And.intro T23 (And.intro T24 (And.intro T25 (And.intro T26 (And.intro T27 (And.intro T28 (And.intro T30 (And.intro T38 (And.intro T40 (And.intro T60 (And.intro T61 (And.intro T63 (And.intro T67 (And.intro T75 (T77))))))))))))))))))
      simp only [enumA, enumO, Nat.reduceAdd]
      have E := And.intro @e (And.intro @ne (And.intro @f0 (@f1)))
      repeat' first | refine R_nil ?_ | ((with_reducible apply tagG); first | refine qg1 ?_ | refine qg2 ?_ | refine qg3 ?_ | refine qg4 ?_ | refine qg5 ?_ | refine qg6 (fun hb => ?_) (fun hb => ?_)) | ((with_reducible apply tagK); first | ((with_reducible apply tagD); first | refine qd5 (C73 _ _) ?_ | refine qd5 (C75 c i g hs h0 hg (hz g (List.mem_of_getElem? hg))) ?_) | ((with_reducible apply tagR); first | refine qr5 (C73 _ _) ?_ | refine qr5 (C75 c i g hs h0 hg (hz g (List.mem_of_getElem? hg))) ?_)) | ((with_reducible apply tagS); first | ((with_reducible apply tagD); first | refine qd1 ?_ | refine qd3 ?_) | ((with_reducible apply tagR); first | refine qr1 ?_ | refine qr3 ?_)) | ((with_reducible apply tagN); first | ((with_reducible apply tagD); first | refine qd2 ?_ | refine qd4 ?_) | ((with_reducible apply tagR); first | refine qr2 ?_ | refine qr4 ?_)) | ((with_reducible apply tagW); first | refine qw1 ?_ | refine qw2 ?_ | refine qw3 ?_ | refine qw4 ?_ | refine qw5 ?_ | refine qw6 (fun hb => ?_) (fun hb => ?_) | refine qw7 ?_ | refine qw8 ?_ | refine qw9 ?_ | refine qw0 ?_) | refine thenQ_n ?_ | refine thenQ_e ?_ | refine thenQ_r ?_ | refine blockQ_n ?_ | refine blockQ_r ?_ | refine blockQ_hit ?_ | refine qb4 ?_ | refine qe ?_ | refine loopQ_e ?_ | refine loopQ_r ?_
      all_goals clear E
      all_goals exact ret_d rfl (by first | (simp_all [insOk, wi]; done) | (simp_all [insOk, wi]; omega) | (simp_all [insOk, wi]; intros; exfalso; omega))
    · have f1 : decide (i.b < (c.pats.length : Int)) = false := by simp only [decide_eq_false_iff_not]; exact h1
      have hg : c.pats[i.b.toNat]? = none := List.getElem?_eq_none (by omega)
      refine C_intro T_ok (rs := [.tmp 6]) Try.func71 rfl rfl rfl (Nat.le_of_ble_eq_true rfl) (Nat.le_of_ble_eq_true rfl) rfl ⟨rfl, rfl⟩ rfl fun cx hn => ?_
      have hn : cx.n = 206 := hn
      have Y := And.intro T3 (And.intro T4 (And.intro T9 (And.intro T22 (And.intro T23 (And.intro T24 (And.intro T25 (And.intro T26 (And.intro T27 (And.intro T28 (And.intro T30 (And.intro T38 (And.intro T40 (And.intro T60 (And.intro T61 (And.intro T63 (And.intro T67 (And.intro T75 (T77))))))))))))))))))
      simp only [enumA, enumO, Nat.reduceAdd]
      have E := And.intro @e (And.intro @ne (And.intro @f0 (@f1)))
      repeat' first | refine R_nil ?_ | ((with_reducible apply tagG); first | refine qg1 ?_ | refine qg2 ?_ | refine qg3 ?_ | refine qg4 ?_ | refine qg5 ?_ | refine qg6 (fun hb => ?_) (fun hb => ?_)) | ((with_reducible apply tagK); first | ((with_reducible apply tagD); first | refine qd5 (C73 _ _) ?_) | ((with_reducible apply tagR); first | refine qr5 (C73 _ _) ?_)) | ((with_reducible apply tagS); first | ((with_reducible apply tagD); first | refine qd1 ?_ | refine qd3 ?_) | ((with_reducible apply tagR); first | refine qr1 ?_ | refine qr3 ?_)) | ((with_reducible apply tagN); first | ((with_reducible apply tagD); first | refine qd2 ?_ | refine qd4 ?_) | ((with_reducible apply tagR); first | refine qr2 ?_ | refine qr4 ?_)) | ((with_reducible apply tagW); first | refine qw1 ?_ | refine qw2 ?_ | refine qw3 ?_ | refine qw4 ?_ | refine qw5 ?_ | refine qw6 (fun hb => ?_) (fun hb => ?_) | refine qw7 ?_ | refine qw8 ?_ | refine qw9 ?_ | refine qw0 ?_) | refine thenQ_n ?_ | refine thenQ_e ?_ | refine thenQ_r ?_ | refine blockQ_n ?_ | refine blockQ_r ?_ | refine blockQ_hit ?_ | refine qb4 ?_ | refine qe ?_ | refine loopQ_e ?_ | refine loopQ_r ?_
      all_goals clear E
      all_goals exact ret_d rfl (by simp [insOk, h, hg])
  · have f0 : decide (0 ≤ i.b) = false := by simp only [decide_eq_false_iff_not]; exact h0
    refine C_intro T_ok (rs := [.tmp 6]) Try.func71 rfl rfl rfl (Nat.le_of_ble_eq_true rfl) (Nat.le_of_ble_eq_true rfl) rfl ⟨rfl, rfl⟩ rfl fun cx hn => ?_
    have hn : cx.n = 206 := hn
    have Y := And.intro T3 (And.intro T4 (And.intro T9 (And.intro T22 (And.intro T23 (And.intro T24 (And.intro T25 (And.intro T26 (And.intro T27 (And.intro T28 (And.intro T30 (And.intro T38 (And.intro T40 (And.intro T60 (And.intro T61 (And.intro T63 (And.intro T67 (And.intro T75 (T77))))))))))))))))))
    simp only [enumA, enumO, Nat.reduceAdd]
    have E := And.intro @e (And.intro @ne (@f0))
    repeat' first | refine R_nil ?_ | ((with_reducible apply tagG); first | refine qg1 ?_ | refine qg2 ?_ | refine qg3 ?_ | refine qg4 ?_ | refine qg5 ?_ | refine qg6 (fun hb => ?_) (fun hb => ?_)) | ((with_reducible apply tagK); first | ((with_reducible apply tagD); first | refine qd5 (C73 _ _) ?_) | ((with_reducible apply tagR); first | refine qr5 (C73 _ _) ?_)) | ((with_reducible apply tagS); first | ((with_reducible apply tagD); first | refine qd1 ?_ | refine qd3 ?_) | ((with_reducible apply tagR); first | refine qr1 ?_ | refine qr3 ?_)) | ((with_reducible apply tagN); first | ((with_reducible apply tagD); first | refine qd2 ?_ | refine qd4 ?_) | ((with_reducible apply tagR); first | refine qr2 ?_ | refine qr4 ?_)) | ((with_reducible apply tagW); first | refine qw1 ?_ | refine qw2 ?_ | refine qw3 ?_ | refine qw4 ?_ | refine qw5 ?_ | refine qw6 (fun hb => ?_) (fun hb => ?_) | refine qw7 ?_ | refine qw8 ?_ | refine qw9 ?_ | refine qw0 ?_) | refine thenQ_n ?_ | refine thenQ_e ?_ | refine thenQ_r ?_ | refine blockQ_n ?_ | refine blockQ_r ?_ | refine blockQ_hit ?_ | refine qb4 ?_ | refine qe ?_ | refine loopQ_e ?_ | refine loopQ_r ?_
    all_goals clear E
    all_goals exact ret_d rfl (by simp only [insOk, h]; simp; split <;> simp [h0])
theorem C71_16 (c : Cod) (f : Fn) (i : Ins) (hs : Sm i.args) (hz : ∀ ps ∈ c.pats, psizes ps ≤ 1099511627776) (h : i.op = 16) : C Try.prog 71 [c.av, f.av, i.av] [] (dInt (if insOk c i then 0 else 3)) [] [] := by
  have ne := neq_of h
  have e : decide (i.op = 16) = true := by simp [h]
  by_cases h0 : 0 ≤ i.b
  · have f0 : decide (0 ≤ i.b) = true := by simp [h0]
    by_cases h1 : i.b < c.pats.length
    · have f1 : decide (i.b < (c.pats.length : Int)) = true := by simp [h1]
      obtain ⟨g, hg⟩ := get_ex (show i.b.toNat < c.pats.length by omega)
      refine C_intro T_ok (rs := [.tmp 6]) Try.func71 rfl rfl rfl (Nat.le_of_ble_eq_true rfl) (Nat.le_of_ble_eq_true rfl) rfl ⟨rfl, rfl⟩ rfl fun cx hn => ?_
      have hn : cx.n = 206 := hn
      have Y := And.intro T3 (And.intro T4 (And.intro T9 (And.intro T22 (And.intro T23 (And.intro T24 (And.intro T25 (And.intro T26 (And.intro T27 (And.intro T28 (And.intro T30 (And.intro T38 (And.intro T40 (And.intro T60 (And.intro T61 (And.intro T63 (And.intro T67 (And.intro T75 (T77))))))))))))))))))
      simp only [enumA, enumO, Nat.reduceAdd]
      have E := And.intro @e (And.intro @ne (And.intro @f0 (@f1)))
      repeat' first | refine R_nil ?_ | ((with_reducible apply tagG); first | refine qg1 ?_ | refine qg2 ?_ | refine qg3 ?_ | refine qg4 ?_ | refine qg5 ?_ | refine qg6 (fun hb => ?_) (fun hb => ?_)) | ((with_reducible apply tagK); first | ((with_reducible apply tagD); first | refine qd5 (C73 _ _) ?_ | refine qd5 (C75 c i g hs h0 hg (hz g (List.mem_of_getElem? hg))) ?_) | ((with_reducible apply tagR); first | refine qr5 (C73 _ _) ?_ | refine qr5 (C75 c i g hs h0 hg (hz g (List.mem_of_getElem? hg))) ?_)) | ((with_reducible apply tagS); first | ((with_reducible apply tagD); first | refine qd1 ?_ | refine qd3 ?_) | ((with_reducible apply tagR); first | refine qr1 ?_ | refine qr3 ?_)) | ((with_reducible apply tagN); first | ((with_reducible apply tagD); first | refine qd2 ?_ | refine qd4 ?_) | ((with_reducible apply tagR); first | refine qr2 ?_ | refine qr4 ?_)) | ((with_reducible apply tagW); first | refine qw1 ?_ | refine qw2 ?_ | refine qw3 ?_ | refine qw4 ?_ | refine qw5 ?_ | refine qw6 (fun hb => ?_) (fun hb => ?_) | refine qw7 ?_ | refine qw8 ?_ | refine qw9 ?_ | refine qw0 ?_) | refine thenQ_n ?_ | refine thenQ_e ?_ | refine thenQ_r ?_ | refine blockQ_n ?_ | refine blockQ_r ?_ | refine blockQ_hit ?_ | refine qb4 ?_ | refine qe ?_ | refine loopQ_e ?_ | refine loopQ_r ?_
      all_goals clear E
      all_goals exact ret_d rfl (by first | (simp_all [insOk, wi]; done) | (simp_all [insOk, wi]; omega) | (simp_all [insOk, wi]; intros; exfalso; omega))
    · have f1 : decide (i.b < (c.pats.length : Int)) = false := by simp only [decide_eq_false_iff_not]; exact h1
      have hg : c.pats[i.b.toNat]? = none := List.getElem?_eq_none (by omega)
      refine C_intro T_ok (rs := [.tmp 6]) Try.func71 rfl rfl rfl (Nat.le_of_ble_eq_true rfl) (Nat.le_of_ble_eq_true rfl) rfl ⟨rfl, rfl⟩ rfl fun cx hn => ?_
      have hn : cx.n = 206 := hn
      have Y := And.intro T3 (And.intro T4 (And.intro T9 (And.intro T22 (And.intro T23 (And.intro T24 (And.intro T25 (And.intro T26 (And.intro T27 (And.intro T28 (And.intro T30 (And.intro T38 (And.intro T40 (And.intro T60 (And.intro T61 (And.intro T63 (And.intro T67 (And.intro T75 (T77))))))))))))))))))
      simp only [enumA, enumO, Nat.reduceAdd]
      have E := And.intro @e (And.intro @ne (And.intro @f0 (@f1)))
      repeat' first | refine R_nil ?_ | ((with_reducible apply tagG); first | refine qg1 ?_ | refine qg2 ?_ | refine qg3 ?_ | refine qg4 ?_ | refine qg5 ?_ | refine qg6 (fun hb => ?_) (fun hb => ?_)) | ((with_reducible apply tagK); first | ((with_reducible apply tagD); first | refine qd5 (C73 _ _) ?_) | ((with_reducible apply tagR); first | refine qr5 (C73 _ _) ?_)) | ((with_reducible apply tagS); first | ((with_reducible apply tagD); first | refine qd1 ?_ | refine qd3 ?_) | ((with_reducible apply tagR); first | refine qr1 ?_ | refine qr3 ?_)) | ((with_reducible apply tagN); first | ((with_reducible apply tagD); first | refine qd2 ?_ | refine qd4 ?_) | ((with_reducible apply tagR); first | refine qr2 ?_ | refine qr4 ?_)) | ((with_reducible apply tagW); first | refine qw1 ?_ | refine qw2 ?_ | refine qw3 ?_ | refine qw4 ?_ | refine qw5 ?_ | refine qw6 (fun hb => ?_) (fun hb => ?_) | refine qw7 ?_ | refine qw8 ?_ | refine qw9 ?_ | refine qw0 ?_) | refine thenQ_n ?_ | refine thenQ_e ?_ | refine thenQ_r ?_ | refine blockQ_n ?_ | refine blockQ_r ?_ | refine blockQ_hit ?_ | refine qb4 ?_ | refine qe ?_ | refine loopQ_e ?_ | refine loopQ_r ?_
      all_goals clear E
      all_goals exact ret_d rfl (by simp [insOk, h, hg])
  · have f0 : decide (0 ≤ i.b) = false := by simp only [decide_eq_false_iff_not]; exact h0
    refine C_intro T_ok (rs := [.tmp 6]) Try.func71 rfl rfl rfl (Nat.le_of_ble_eq_true rfl) (Nat.le_of_ble_eq_true rfl) rfl ⟨rfl, rfl⟩ rfl fun cx hn => ?_
    have hn : cx.n = 206 := hn
    have Y := And.intro T3 (And.intro T4 (And.intro T9 (And.intro T22 (And.intro T23 (And.intro T24 (And.intro T25 (And.intro T26 (And.intro T27 (And.intro T28 (And.intro T30 (And.intro T38 (And.intro T40 (And.intro T60 (And.intro T61 (And.intro T63 (And.intro T67 (And.intro T75 (T77))))))))))))))))))
    simp only [enumA, enumO, Nat.reduceAdd]
    have E := And.intro @e (And.intro @ne (@f0))
    repeat' first | refine R_nil ?_ | ((with_reducible apply tagG); first | refine qg1 ?_ | refine qg2 ?_ | refine qg3 ?_ | refine qg4 ?_ | refine qg5 ?_ | refine qg6 (fun hb => ?_) (fun hb => ?_)) | ((with_reducible apply tagK); first | ((with_reducible apply tagD); first | refine qd5 (C73 _ _) ?_) | ((with_reducible apply tagR); first | refine qr5 (C73 _ _) ?_)) | ((with_reducible apply tagS); first | ((with_reducible apply tagD); first | refine qd1 ?_ | refine qd3 ?_) | ((with_reducible apply tagR); first | refine qr1 ?_ | refine qr3 ?_)) | ((with_reducible apply tagN); first | ((with_reducible apply tagD); first | refine qd2 ?_ | refine qd4 ?_) | ((with_reducible apply tagR); first | refine qr2 ?_ | refine qr4 ?_)) | ((with_reducible apply tagW); first | refine qw1 ?_ | refine qw2 ?_ | refine qw3 ?_ | refine qw4 ?_ | refine qw5 ?_ | refine qw6 (fun hb => ?_) (fun hb => ?_) | refine qw7 ?_ | refine qw8 ?_ | refine qw9 ?_ | refine qw0 ?_) | refine thenQ_n ?_ | refine thenQ_e ?_ | refine thenQ_r ?_ | refine blockQ_n ?_ | refine blockQ_r ?_ | refine blockQ_hit ?_ | refine qb4 ?_ | refine qe ?_ | refine loopQ_e ?_ | refine loopQ_r ?_
    all_goals clear E
    all_goals exact ret_d rfl (by simp only [insOk, h]; simp; split <;> simp [h0])
theorem C71_x (c : Cod) (f : Fn) (i : Ins) (hs : Sm i.args) (h1 : i.op ≠ 1) (h5 : i.op ≠ 5) (h6 : i.op ≠ 6) (h7 : i.op ≠ 7) (h8 : i.op ≠ 8) (h10 : i.op ≠ 10) (h17 : i.op ≠ 17) (h27 : i.op ≠ 27) (h12 : i.op ≠ 12) (h11 : i.op ≠ 11) (h16 : i.op ≠ 16) : C Try.prog 71 [c.av, f.av, i.av] [] (dInt (if insOk c i then 0 else 3)) [] [] := by
  have e1 : decide (i.op = 1) = false := by simp [h1]
  have e5 : decide (i.op = 5) = false := by simp [h5]
  have e6 : decide (i.op = 6) = false := by simp [h6]
  have e7 : decide (i.op = 7) = false := by simp [h7]
  have e8 : decide (i.op = 8) = false := by simp [h8]
  have e10 : decide (i.op = 10) = false := by simp [h10]
  have e17 : decide (i.op = 17) = false := by simp [h17]
  have e27 : decide (i.op = 27) = false := by simp [h27]
  have e12 : decide (i.op = 12) = false := by simp [h12]
  have e11 : decide (i.op = 11) = false := by simp [h11]
  have e16 : decide (i.op = 16) = false := by simp [h16]
  refine C_intro T_ok (rs := [.tmp 6]) Try.func71 rfl rfl rfl (Nat.le_of_ble_eq_true rfl) (Nat.le_of_ble_eq_true rfl) rfl ⟨rfl, rfl⟩ rfl fun cx hn => ?_
  have hn : cx.n = 206 := hn
  have Y := And.intro T3 (And.intro T4 (And.intro T9 (And.intro T22 (And.intro T23 (And.intro T24 (And.intro T25 (And.intro T26 (And.intro T27 (And.intro T28 (And.intro T30 (And.intro T38 (And.intro T40 (And.intro T60 (And.intro T61 (And.intro T63 (And.intro T67 (And.intro T75 (T77))))))))))))))))))
  simp only [enumA, enumO, Nat.reduceAdd]
  have E := And.intro @e1 (And.intro @e5 (And.intro @e6 (And.intro @e7 (And.intro @e8 (And.intro @e10 (And.intro @e17 (And.intro @e27 (And.intro @e12 (And.intro @e11 (@e16))))))))))
  repeat' first | refine R_nil ?_ | ((with_reducible apply tagG); first | refine qg1 ?_ | refine qg2 ?_ | refine qg3 ?_ | refine qg4 ?_ | refine qg5 ?_ | refine qg6 (fun hb => ?_) (fun hb => ?_)) | ((with_reducible apply tagS); first | ((with_reducible apply tagD); first | refine qd1 ?_ | refine qd3 ?_) | ((with_reducible apply tagR); first | refine qr1 ?_ | refine qr3 ?_)) | ((with_reducible apply tagN); first | ((with_reducible apply tagD); first | refine qd2 ?_ | refine qd4 ?_) | ((with_reducible apply tagR); first | refine qr2 ?_ | refine qr4 ?_)) | ((with_reducible apply tagW); first | refine qw1 ?_ | refine qw2 ?_ | refine qw3 ?_ | refine qw4 ?_ | refine qw5 ?_ | refine qw6 (fun hb => ?_) (fun hb => ?_) | refine qw7 ?_ | refine qw8 ?_ | refine qw9 ?_ | refine qw0 ?_) | refine thenQ_n ?_ | refine thenQ_e ?_ | refine thenQ_r ?_ | refine blockQ_n ?_ | refine blockQ_r ?_ | refine blockQ_hit ?_ | refine qb4 ?_ | refine qe ?_ | refine loopQ_e ?_ | refine loopQ_r ?_
  all_goals clear E
  all_goals exact ret_d rfl (by simp [insOk, h1, h5, h6, h7, h8, h10, h17, h27, h12, h11, h16])
end Go.Pw
