/- Functions of the law: guesses. -/
import Derived.Test.YtppebcfhhoggiaaQF24
import Derived.Test.YtppebcfhhoggiaaQF27
set_option linter.unusedVariables false
set_option linter.unusedSimpArgs false
namespace Go.Pw
open Go Go.Proofs
attribute [local irreducible] runL W endD thenQ blockQ loopQ
set_option maxRecDepth 8000
set_option maxHeartbeats 16000000
theorem find_drop {α : Type} {p : α → Bool} {l : List α} {m : Nat} {y : α} (hy : l[m]? = some y) : (l.drop m).find? p = if p y then some y else (l.drop (m + 1)).find? p := by
  rw [drop_some hy, List.find?_cons]
  cases p y <;> rfl
theorem guessIns_7 {c : Cod} {n pc : Int} {x : Ins} (h7 : x.op = 7) (hw : wi x.b c.texts.length = true) : guessIns c n pc x = match c.impls.find? (fun y => decide (y.name = textAt c x.b)) with
    | some m => [⟨n, pc, m.for_⟩]
    | none => [] := by
  unfold guessIns; rw [if_pos ⟨h7, hw⟩]
  cases c.impls.find? (fun y => decide (y.name = textAt c x.b)) <;> rfl
theorem C15 (c : Cod) (hc : c.Sz) (h0 : codErr c = 0) : C Try.prog 15 [c.av] [] (.d (.sl (hintsD (guessOf c)))) [] [] := by
  have hgd := good_of h0
  have hci := hc.ok.impls
  refine C_intro T_ok (rs := [.tmp 2]) Try.func15 rfl rfl rfl (Nat.le_of_ble_eq_true rfl) (Nat.le_of_ble_eq_true rfl) rfl ⟨rfl, rfl⟩ rfl fun cx hn => ?_
  have hn : cx.n = 73 := hn
  have Y := And.intro T3 (And.intro T4 (And.intro T9 (And.intro T22 (And.intro T23 (And.intro T24 (And.intro T25 (And.intro T26 (And.intro T27 (And.intro T28 (And.intro T30 (And.intro T38 (And.intro T40 (And.intro T51 (And.intro T60 (And.intro T61 (And.intro T63 (And.intro T67 (And.intro T75 (And.intro T77 (T88))))))))))))))))))))
  simp only [enumA, enumO, Nat.reduceAdd]
  repeat' first | refine R_nil ?_ | ((with_reducible apply tagG); first | refine qg1 ?_ | refine qg2 ?_ | refine qg3 ?_ | refine qg4 ?_ | refine qg5 ?_ | refine qg6 (fun hb => ?_) (fun hb => ?_)) | ((with_reducible apply tagS); first | ((with_reducible apply tagD); first | refine qd1 ?_ | refine qd3 ?_) | ((with_reducible apply tagR); first | refine qr1 ?_ | refine qr3 ?_)) | ((with_reducible apply tagN); first | ((with_reducible apply tagD); first | refine qd2 ?_ | refine qd4 ?_) | ((with_reducible apply tagR); first | refine qr2 ?_ | refine qr4 ?_)) | ((with_reducible apply tagW); first | refine qw1 ?_ | refine qw2 ?_ | refine qw3 ?_ | refine qw4 ?_ | refine qw5 ?_ | refine qw6 (fun hb => ?_) (fun hb => ?_) | refine qw7 ?_ | refine qw8 ?_ | refine qw9 ?_ | refine qw0 ?_) | refine thenQ_n ?_ | refine thenQ_e ?_ | refine thenQ_r ?_ | refine blockQ_n ?_ | refine blockQ_r ?_ | refine blockQ_hit ?_ | refine qb4 ?_ | refine qe ?_ | refine loopQ_e ?_ | refine loopQ_r ?_
  refine W_ghost (G_adopt 3 68 3 rfl rfl (.inr (by decide))) ?_
  refine W_loopQ (fun k : Nat => [(11, dInt k), (10, dInt c.funs.length), (3, .ref 68 0 (guessTo c k).length), (1, .ptr 1 0 0)]) (fun k => [(68, some (.row 3 (hintsD (guessTo c k)))), (1, some (.box c.cells))]) (fun k => c.funs.length - k) (fun k => k ≤ c.funs.length ∧ (guessTo c k).length ≤ k * 1048576) 0 ⟨by omega, by simp [guessTo]⟩ qs fun k ⟨hk, hgl⟩ => ?_
  by_cases hkl : k < c.funs.length
  · obtain ⟨f, hf⟩ := get_ex hkl
    have hk1 : (k:Int) < c.funs.length := by omega
    have hcf := hc.funs
    have hfm := List.mem_of_getElem? hf
    have hfl := hc.ins f hfm
    have hfg := fnGood_of (hgd.fun0 f hfm)
    have E := And.intro @hk1 ((fns_get hf))
    repeat' first | refine R_nil ?_ | ((with_reducible apply tagG); first | refine qg1 ?_ | refine qg2 ?_ | refine qg3 ?_ | refine qg4 ?_ | refine qg5 ?_ | refine qg6 (fun hb => ?_) (fun hb => ?_)) | ((with_reducible apply tagS); first | ((with_reducible apply tagD); first | refine qd1 ?_ | refine qd3 ?_) | ((with_reducible apply tagR); first | refine qr1 ?_ | refine qr3 ?_)) | ((with_reducible apply tagN); first | ((with_reducible apply tagD); first | refine qd2 ?_ | refine qd4 ?_) | ((with_reducible apply tagR); first | refine qr2 ?_ | refine qr4 ?_)) | ((with_reducible apply tagW); first | refine qw1 ?_ | refine qw2 ?_ | refine qw3 ?_ | refine qw4 ?_ | refine qw5 ?_ | refine qw6 (fun hb => ?_) (fun hb => ?_) | refine qw7 ?_ | refine qw8 ?_ | refine qw9 ?_ | refine qw0 ?_) | refine thenQ_n ?_ | refine thenQ_e ?_ | refine thenQ_r ?_ | refine blockQ_n ?_ | refine blockQ_r ?_ | refine blockQ_hit ?_ | refine qb4 ?_ | refine qe ?_ | refine loopQ_e ?_ | refine loopQ_r ?_
    all_goals clear E
    refine W_loopQ (fun j : Nat => [(21, dInt j), (20, dInt f.ins.length), (4, dInt k), (11, dInt k), (10, dInt c.funs.length), (3, .ref 68 0 (guessTo c k ++ guessFn c k f.ins j).length), (1, .ptr 1 0 0)]) (fun j => [(68, some (.row 3 (hintsD (guessTo c k ++ guessFn c k f.ins j)))), (1, some (.box c.cells))]) (fun j => f.ins.length - j) (fun j => j ≤ f.ins.length) 0 (by omega) (by rw [show guessFn c k f.ins 0 = [] from rfl, List.append_nil]; exact qs) fun j hj => ?_
    by_cases hjl : j < f.ins.length
    · obtain ⟨x, hx⟩ := get_ex hjl
      have hj1 : (j:Int) < f.ins.length := by omega
      have hgf := guessFn_len c k f.ins j
      have hA : (guessTo c k ++ guessFn c k f.ins j).length ≤ 1099513724928 := by
        rw [List.length_append]
        have : k * 1048576 ≤ 1048576 * 1048576 := Nat.mul_le_mul_right _ (by omega)
        omega
      have eS : guessTo c k ++ guessFn c k f.ins (j + 1) = (guessTo c k ++ guessFn c k f.ins j) ++ guessIns c k j x := by rw [guessFn_succ _ _ _ _ hx, List.append_assoc]
      generalize guessTo c k ++ guessFn c k f.ins j = A at *
      have e1 := hintsD_take A
      have E := And.intro @hj1 (And.intro (fns_get hf) (And.intro @hk1 ((inss_get hx))))
      repeat' first | refine R_nil ?_ | ((with_reducible apply tagG); first | refine qg1 ?_ | refine qg2 ?_ | refine qg3 ?_ | refine qg4 ?_ | refine qg5 ?_ | refine qg6 (fun hb => ?_) (fun hb => ?_)) | ((with_reducible apply tagS); first | ((with_reducible apply tagD); first | refine qd1 ?_ | refine qd3 ?_) | ((with_reducible apply tagR); first | refine qr1 ?_ | refine qr3 ?_)) | ((with_reducible apply tagN); first | ((with_reducible apply tagD); first | refine qd2 ?_ | refine qd4 ?_) | ((with_reducible apply tagR); first | refine qr2 ?_ | refine qr4 ?_)) | ((with_reducible apply tagW); first | refine qw1 ?_ | refine qw2 ?_ | refine qw3 ?_ | refine qw4 ?_ | refine qw5 ?_ | refine qw6 (fun hb => ?_) (fun hb => ?_) | refine qw7 ?_ | refine qw8 ?_ | refine qw9 ?_ | refine qw0 ?_) | refine thenQ_n ?_ | refine thenQ_e ?_ | refine thenQ_r ?_ | refine blockQ_n ?_ | refine blockQ_r ?_ | refine blockQ_hit ?_ | refine qb4 ?_ | refine qe ?_ | refine loopQ_e ?_ | refine loopQ_r ?_
      all_goals clear E
      by_cases h7 : x.op = 7
      · have e7 : decide (x.op = 7) = true := by simp [h7]
        have hw := (hfg.trait (List.mem_of_getElem? hx) h7).1
        have eG := guessIns_7 (n := k) (pc := j) h7 hw
        obtain ⟨s, hst, hb0, hb1⟩ := wi_get hw
        rw [show textAt c x.b = s by simp [textAt, hst]] at eG
        refine W_loopQ (fun m : Nat => [(36, dInt m), (35, dInt c.impls.length), (6, .ptr 6 0 0), (21, dInt j), (20, dInt f.ins.length), (4, dInt k), (5, dInt j), (11, dInt k), (10, dInt c.funs.length), (3, .ref 68 0 A.length), (1, .ptr 1 0 0)]) (fun _ => [(6, some (.box x.cells)), (68, some (.row 3 (hintsD A))), (1, some (.box c.cells))]) (fun m => c.impls.length - m) (fun m => m ≤ c.impls.length ∧ c.impls.find? (fun y => decide (y.name = s)) = (c.impls.drop m).find? (fun y => decide (y.name = s))) 0 ⟨by omega, rfl⟩ qs fun m ⟨hm, hfi⟩ => ?_
        by_cases hml : m < c.impls.length
        · obtain ⟨y, hy⟩ := get_ex hml
          have hm1 : (m:Int) < c.impls.length := by omega
          rw [find_drop hy] at hfi
          have e2 := hintsD_app A k j y.for_
          by_cases hn' : y.name = s
          · have e3 : decide (y.name = s) = true := by simp [hn']
            rw [e3, if_pos rfl] at hfi
            rw [hfi] at eG
            have E := And.intro @hm1 (And.intro @e7 (And.intro (implsD_get hy) (And.intro (strs_get hst) (And.intro @hb0 (And.intro @hb1 (And.intro @e3 (And.intro @e1 (@e2))))))))
            repeat' first | refine R_nil ?_ | ((with_reducible apply tagG); first | refine qg1 ?_ | refine qg2 ?_ | refine qg3 ?_ | refine qg4 ?_ | refine qg5 ?_ | refine qg6 (fun hb => ?_) (fun hb => ?_)) | ((with_reducible apply tagS); first | ((with_reducible apply tagD); first | refine qd1 ?_ | refine qd3 ?_) | ((with_reducible apply tagR); first | refine qr1 ?_ | refine qr3 ?_)) | ((with_reducible apply tagN); first | ((with_reducible apply tagD); first | refine qd2 ?_ | refine qd4 ?_) | ((with_reducible apply tagR); first | refine qr2 ?_ | refine qr4 ?_)) | ((with_reducible apply tagW); first | refine qw1 ?_ | refine qw2 ?_ | refine qw3 ?_ | refine qw4 ?_ | refine qw5 ?_ | refine qw6 (fun hb => ?_) (fun hb => ?_) | refine qw7 ?_ | refine qw8 ?_ | refine qw9 ?_ | refine qw0 ?_) | refine thenQ_n ?_ | refine thenQ_e ?_ | refine thenQ_r ?_ | refine blockQ_n ?_ | refine blockQ_r ?_ | refine blockQ_hit ?_ | refine qb4 ?_ | refine qe ?_ | refine loopQ_e ?_ | refine loopQ_r ?_
            all_goals clear E
            refine loopQ_n (j + 1) (by omega) (by omega) (by rw [eS, eG]; exact qs)
          · have e3 : decide (y.name = s) = false := by simp [hn']
            rw [e3] at hfi
            have E := And.intro @hm1 (And.intro @e7 (And.intro (implsD_get hy) (And.intro (strs_get hst) (And.intro @hb0 (And.intro @hb1 (@e3))))))
            repeat' first | refine R_nil ?_ | ((with_reducible apply tagG); first | refine qg1 ?_ | refine qg2 ?_ | refine qg3 ?_ | refine qg4 ?_ | refine qg5 ?_ | refine qg6 (fun hb => ?_) (fun hb => ?_)) | ((with_reducible apply tagS); first | ((with_reducible apply tagD); first | refine qd1 ?_ | refine qd3 ?_) | ((with_reducible apply tagR); first | refine qr1 ?_ | refine qr3 ?_)) | ((with_reducible apply tagN); first | ((with_reducible apply tagD); first | refine qd2 ?_ | refine qd4 ?_) | ((with_reducible apply tagR); first | refine qr2 ?_ | refine qr4 ?_)) | ((with_reducible apply tagW); first | refine qw1 ?_ | refine qw2 ?_ | refine qw3 ?_ | refine qw4 ?_ | refine qw5 ?_ | refine qw6 (fun hb => ?_) (fun hb => ?_) | refine qw7 ?_ | refine qw8 ?_ | refine qw9 ?_ | refine qw0 ?_) | refine thenQ_n ?_ | refine thenQ_e ?_ | refine thenQ_r ?_ | refine blockQ_n ?_ | refine blockQ_r ?_ | refine blockQ_hit ?_ | refine qb4 ?_ | refine qe ?_ | refine loopQ_e ?_ | refine loopQ_r ?_
            all_goals clear E
            refine loopQ_n (m + 1) (by omega) ⟨by omega, hfi⟩ qs
        · have hm0 : ¬ (m:Int) < c.impls.length := by omega
          rw [drop_none hml] at hfi
          rw [hfi] at eG
          have E := @hm0
          repeat' first | refine R_nil ?_ | ((with_reducible apply tagG); first | refine qg1 ?_ | refine qg2 ?_ | refine qg3 ?_ | refine qg4 ?_ | refine qg5 ?_ | refine qg6 (fun hb => ?_) (fun hb => ?_)) | ((with_reducible apply tagS); first | ((with_reducible apply tagD); first | refine qd1 ?_ | refine qd3 ?_) | ((with_reducible apply tagR); first | refine qr1 ?_ | refine qr3 ?_)) | ((with_reducible apply tagN); first | ((with_reducible apply tagD); first | refine qd2 ?_ | refine qd4 ?_) | ((with_reducible apply tagR); first | refine qr2 ?_ | refine qr4 ?_)) | ((with_reducible apply tagW); first | refine qw1 ?_ | refine qw2 ?_ | refine qw3 ?_ | refine qw4 ?_ | refine qw5 ?_ | refine qw6 (fun hb => ?_) (fun hb => ?_) | refine qw7 ?_ | refine qw8 ?_ | refine qw9 ?_ | refine qw0 ?_) | refine thenQ_n ?_ | refine thenQ_e ?_ | refine thenQ_r ?_ | refine blockQ_n ?_ | refine blockQ_r ?_ | refine blockQ_hit ?_ | refine qb4 ?_ | refine qe ?_ | refine loopQ_e ?_ | refine loopQ_r ?_
          all_goals clear E
          refine loopQ_n (j + 1) (by omega) (by omega) (by rw [eS, eG]; simp only [List.find?_nil, List.append_nil]; exact qs)
      · have e7 : decide (x.op = 7) = false := by simp [h7]
        have eG : guessIns c k j x = [] := by simp [guessIns, h7]
        refine W_loopQ (fun m : Nat => [(36, dInt m), (35, dInt c.impls.length), (6, .ptr 6 0 0), (21, dInt j), (20, dInt f.ins.length), (4, dInt k), (5, dInt j), (11, dInt k), (10, dInt c.funs.length), (3, .ref 68 0 A.length), (1, .ptr 1 0 0)]) (fun _ => [(6, some (.box x.cells)), (68, some (.row 3 (hintsD A))), (1, some (.box c.cells))]) (fun m => c.impls.length - m) (fun m => m ≤ c.impls.length) 0 (by omega) qs fun m hm => ?_
        by_cases hml : m < c.impls.length
        · have hm1 : (m:Int) < c.impls.length := by omega
          have E := And.intro @hm1 (@e7)
          repeat' first | refine R_nil ?_ | ((with_reducible apply tagG); first | refine qg1 ?_ | refine qg2 ?_ | refine qg3 ?_ | refine qg4 ?_ | refine qg5 ?_ | refine qg6 (fun hb => ?_) (fun hb => ?_)) | ((with_reducible apply tagS); first | ((with_reducible apply tagD); first | refine qd1 ?_ | refine qd3 ?_) | ((with_reducible apply tagR); first | refine qr1 ?_ | refine qr3 ?_)) | ((with_reducible apply tagN); first | ((with_reducible apply tagD); first | refine qd2 ?_ | refine qd4 ?_) | ((with_reducible apply tagR); first | refine qr2 ?_ | refine qr4 ?_)) | ((with_reducible apply tagW); first | refine qw1 ?_ | refine qw2 ?_ | refine qw3 ?_ | refine qw4 ?_ | refine qw5 ?_ | refine qw6 (fun hb => ?_) (fun hb => ?_) | refine qw7 ?_ | refine qw8 ?_ | refine qw9 ?_ | refine qw0 ?_) | refine thenQ_n ?_ | refine thenQ_e ?_ | refine thenQ_r ?_ | refine blockQ_n ?_ | refine blockQ_r ?_ | refine blockQ_hit ?_ | refine qb4 ?_ | refine qe ?_ | refine loopQ_e ?_ | refine loopQ_r ?_
          all_goals clear E
          refine loopQ_n (m + 1) (by omega) (by omega) qs
        · have hm0 : ¬ (m:Int) < c.impls.length := by omega
          have E := @hm0
          repeat' first | refine R_nil ?_ | ((with_reducible apply tagG); first | refine qg1 ?_ | refine qg2 ?_ | refine qg3 ?_ | refine qg4 ?_ | refine qg5 ?_ | refine qg6 (fun hb => ?_) (fun hb => ?_)) | ((with_reducible apply tagS); first | ((with_reducible apply tagD); first | refine qd1 ?_ | refine qd3 ?_) | ((with_reducible apply tagR); first | refine qr1 ?_ | refine qr3 ?_)) | ((with_reducible apply tagN); first | ((with_reducible apply tagD); first | refine qd2 ?_ | refine qd4 ?_) | ((with_reducible apply tagR); first | refine qr2 ?_ | refine qr4 ?_)) | ((with_reducible apply tagW); first | refine qw1 ?_ | refine qw2 ?_ | refine qw3 ?_ | refine qw4 ?_ | refine qw5 ?_ | refine qw6 (fun hb => ?_) (fun hb => ?_) | refine qw7 ?_ | refine qw8 ?_ | refine qw9 ?_ | refine qw0 ?_) | refine thenQ_n ?_ | refine thenQ_e ?_ | refine thenQ_r ?_ | refine blockQ_n ?_ | refine blockQ_r ?_ | refine blockQ_hit ?_ | refine qb4 ?_ | refine qe ?_ | refine loopQ_e ?_ | refine loopQ_r ?_
          all_goals clear E
          refine loopQ_n (j + 1) (by omega) (by omega) (by rw [eS, eG, List.append_nil]; exact qs)
    · have hj0 : ¬ (j:Int) < f.ins.length := by omega
      have ej : j = f.ins.length := by omega
      subst ej
      have hgf := guessFn_len c k f.ins f.ins.length
      rw [← guessTo_succ c k hf]
      have E := @hj0
      repeat' first | refine R_nil ?_ | ((with_reducible apply tagG); first | refine qg1 ?_ | refine qg2 ?_ | refine qg3 ?_ | refine qg4 ?_ | refine qg5 ?_ | refine qg6 (fun hb => ?_) (fun hb => ?_)) | ((with_reducible apply tagS); first | ((with_reducible apply tagD); first | refine qd1 ?_ | refine qd3 ?_) | ((with_reducible apply tagR); first | refine qr1 ?_ | refine qr3 ?_)) | ((with_reducible apply tagN); first | ((with_reducible apply tagD); first | refine qd2 ?_ | refine qd4 ?_) | ((with_reducible apply tagR); first | refine qr2 ?_ | refine qr4 ?_)) | ((with_reducible apply tagW); first | refine qw1 ?_ | refine qw2 ?_ | refine qw3 ?_ | refine qw4 ?_ | refine qw5 ?_ | refine qw6 (fun hb => ?_) (fun hb => ?_) | refine qw7 ?_ | refine qw8 ?_ | refine qw9 ?_ | refine qw0 ?_) | refine thenQ_n ?_ | refine thenQ_e ?_ | refine thenQ_r ?_ | refine blockQ_n ?_ | refine blockQ_r ?_ | refine blockQ_hit ?_ | refine qb4 ?_ | refine qe ?_ | refine loopQ_e ?_ | refine loopQ_r ?_
      all_goals clear E
      refine loopQ_n (k + 1) (by omega) ⟨by omega, ?_⟩ qs
      rw [guessTo_succ c k hf, List.length_append, Nat.add_mul]; omega
  · have hk0 : ¬ (k:Int) < c.funs.length := by omega
    have ek : k = c.funs.length := by omega
    subst ek
    have e1 := hintsD_take (guessTo c c.funs.length)
    have E := @hk0
    repeat' first | refine R_nil ?_ | ((with_reducible apply tagG); first | refine qg1 ?_ | refine qg2 ?_ | refine qg3 ?_ | refine qg4 ?_ | refine qg5 ?_ | refine qg6 (fun hb => ?_) (fun hb => ?_)) | ((with_reducible apply tagS); first | ((with_reducible apply tagD); first | refine qd1 ?_ | refine qd3 ?_) | ((with_reducible apply tagR); first | refine qr1 ?_ | refine qr3 ?_)) | ((with_reducible apply tagN); first | ((with_reducible apply tagD); first | refine qd2 ?_ | refine qd4 ?_) | ((with_reducible apply tagR); first | refine qr2 ?_ | refine qr4 ?_)) | ((with_reducible apply tagW); first | refine qw1 ?_ | refine qw2 ?_ | refine qw3 ?_ | refine qw4 ?_ | refine qw5 ?_ | refine qw6 (fun hb => ?_) (fun hb => ?_) | refine qw7 ?_ | refine qw8 ?_ | refine qw9 ?_ | refine qw0 ?_) | refine thenQ_n ?_ | refine thenQ_e ?_ | refine thenQ_r ?_ | refine blockQ_n ?_ | refine blockQ_r ?_ | refine blockQ_hit ?_ | refine qb4 ?_ | refine qe ?_ | refine loopQ_e ?_ | refine loopQ_r ?_
    all_goals clear E
    exact ret_ref rfl rfl rfl (by rw [List.drop_zero, e1]; rfl)
end Go.Pw
