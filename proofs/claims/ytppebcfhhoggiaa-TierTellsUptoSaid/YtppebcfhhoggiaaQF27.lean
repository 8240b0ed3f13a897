/- Functions: guesses; names. -/
import Derived.Test.YtppebcfhhoggiaaQF23
set_option linter.unusedVariables false
set_option linter.unusedSimpArgs false
namespace Go.Pw
open Go Go.Proofs
attribute [local irreducible] runL W endD thenQ blockQ loopQ
set_option maxRecDepth 8000
set_option maxHeartbeats 16000000
def guessIns (c : Cod) (n pc : Int) (i : Ins) : List Hint :=
  if i.op = 7 ∧ wi i.b c.texts.length = true then
    match c.impls.find? (fun x => decide (x.name = textAt c i.b)) with
    | some m => [⟨n, pc, m.for_⟩]
    | none => []
  else []
def guessAt (c : Cod) (n : Int) (ins : List Ins) (j : Nat) : List Hint := match ins[j]? with
  | some i => guessIns c n j i
  | none => []
def guessFn (c : Cod) (n : Int) (ins : List Ins) (k : Nat) : List Hint := (List.range k).flatMap (guessAt c n ins)
def guessTo (c : Cod) (k : Nat) : List Hint := (List.range k).flatMap fun (n : Nat) => guessFn c n (((c.funs[n]?).map (·.ins)).getD []) (((c.funs[n]?).map (·.ins)).getD []).length
def guessOf (c : Cod) : List Hint := guessTo c c.funs.length
theorem guessFn_succ (c : Cod) (n : Int) (ins : List Ins) (k : Nat) {x : Ins} (hx : ins[k]? = some x) : guessFn c n ins (k + 1) = guessFn c n ins k ++ guessIns c n k x := by
  unfold guessFn
  rw [List.range_succ, List.flatMap_append]
  simp [guessAt, hx]
theorem guessTo_succ (c : Cod) (k : Nat) {f : Fn} (hf : c.funs[k]? = some f) : guessTo c (k + 1) = guessTo c k ++ guessFn c k f.ins f.ins.length := by
  unfold guessTo
  rw [List.range_succ, List.flatMap_append]
  simp [hf]
theorem guessFn_len (c : Cod) (n : Int) (ins : List Ins) : ∀ k, (guessFn c n ins k).length ≤ k
  | 0 => by simp [guessFn]
  | k + 1 => by
    have := guessFn_len c n ins k
    unfold guessFn at this ⊢
    rw [List.range_succ, List.flatMap_append, List.length_append]
    have h : (([k] : List Nat).flatMap (guessAt c n ins)).length ≤ 1 := by
      simp only [List.flatMap_cons, List.flatMap_nil, List.append_nil, guessAt]
      split
      · unfold guessIns; split
        · split <;> simp
        · simp
      · simp
    omega
theorem hintsD_take (l : List Hint) : (hintsD l).take l.length = hintsD l := List.take_of_length_le (by rw [hintsD_len]; omega)
theorem hintsD_app (l : List Hint) (a b : Int) (t : ByteArray) : hintsD l ++ [[DI a, DI b, DS t]] = hintsD (l ++ [⟨a, b, t⟩]) := by simp [hintsD, Hint.row]
structure Cod.Sz (c : Cod) : Prop where
  ok : c.Ok
  funs : c.funs.length ≤ 1048576
  ins : ∀ f ∈ c.funs, f.ins.length ≤ 1048576
  args : ∀ f ∈ c.funs, ∀ i ∈ f.ins, i.args.length ≤ 1048576
theorem C13 (c : Cod) (hc : c.Sz) : C Try.prog 13 [c.av] [] (.d (.sl (hintsD (guessOf c)))) [] [] := by
  refine C_intro T_ok (rs := [.tmp 2]) Try.func13 rfl rfl rfl (Nat.le_of_ble_eq_true rfl) (Nat.le_of_ble_eq_true rfl) rfl ⟨rfl, rfl⟩ rfl fun cx hn => ?_
  have hn : cx.n = 62 := hn
  have Y := And.intro T3 (And.intro T4 (And.intro T9 (And.intro T22 (And.intro T23 (And.intro T24 (And.intro T25 (And.intro T26 (And.intro T27 (And.intro T28 (And.intro T30 (And.intro T38 (And.intro T40 (And.intro T46 (And.intro T48 (And.intro T60 (And.intro T61 (And.intro T63 (And.intro T67 (And.intro T75 (And.intro T77 (T87)))))))))))))))))))))
  simp only [enumA, enumO, Nat.reduceAdd]
  repeat' first | refine R_nil ?_ | ((with_reducible apply tagG); first | refine qg1 ?_ | refine qg2 ?_ | refine qg3 ?_ | refine qg4 ?_ | refine qg5 ?_ | refine qg6 (fun hb => ?_) (fun hb => ?_)) | ((with_reducible apply tagS); first | ((with_reducible apply tagD); first | refine qd1 ?_ | refine qd3 ?_) | ((with_reducible apply tagR); first | refine qr1 ?_ | refine qr3 ?_)) | ((with_reducible apply tagN); first | ((with_reducible apply tagD); first | refine qd2 ?_ | refine qd4 ?_) | ((with_reducible apply tagR); first | refine qr2 ?_ | refine qr4 ?_)) | ((with_reducible apply tagW); first | refine qw1 ?_ | refine qw2 ?_ | refine qw3 ?_ | refine qw4 ?_ | refine qw5 ?_ | refine qw6 (fun hb => ?_) (fun hb => ?_) | refine qw7 ?_ | refine qw8 ?_ | refine qw9 ?_ | refine qw0 ?_) | refine thenQ_n ?_ | refine thenQ_e ?_ | refine thenQ_r ?_ | refine blockQ_n ?_ | refine blockQ_r ?_ | refine blockQ_hit ?_ | refine qb4 ?_ | refine qe ?_ | refine loopQ_e ?_ | refine loopQ_r ?_
  refine W_ghost (G_adopt 3 58 3 rfl rfl (.inr (by decide))) ?_
  refine W_loopQ (fun k : Nat => [(12, dInt k), (11, dInt c.funs.length), (10, .d (.sl (fns c.funs))), (3, .ref 58 0 (guessTo c k).length), (1, .ptr 1 0 0)]) (fun k => [(58, some (.row 3 (hintsD (guessTo c k)))), (1, some (.box c.cells))]) (fun k => c.funs.length - k) (fun k => k ≤ c.funs.length ∧ (guessTo c k).length ≤ k * 1048576) 0 ⟨by omega, by simp [guessTo]⟩ qs fun k ⟨hk, hgl⟩ => ?_
  by_cases hkl : k < c.funs.length
  · obtain ⟨f, hf⟩ := get_ex hkl
    have hk1 : (k:Int) < c.funs.length := by omega
    have hcf := hc.funs
    have hfm := List.mem_of_getElem? hf
    have hfl := hc.ins f hfm
    have E := And.intro @hk1 ((fns_get hf))
    repeat' first | refine R_nil ?_ | ((with_reducible apply tagG); first | refine qg1 ?_ | refine qg2 ?_ | refine qg3 ?_ | refine qg4 ?_ | refine qg5 ?_ | refine qg6 (fun hb => ?_) (fun hb => ?_)) | ((with_reducible apply tagS); first | ((with_reducible apply tagD); first | refine qd1 ?_ | refine qd3 ?_) | ((with_reducible apply tagR); first | refine qr1 ?_ | refine qr3 ?_)) | ((with_reducible apply tagN); first | ((with_reducible apply tagD); first | refine qd2 ?_ | refine qd4 ?_) | ((with_reducible apply tagR); first | refine qr2 ?_ | refine qr4 ?_)) | ((with_reducible apply tagW); first | refine qw1 ?_ | refine qw2 ?_ | refine qw3 ?_ | refine qw4 ?_ | refine qw5 ?_ | refine qw6 (fun hb => ?_) (fun hb => ?_) | refine qw7 ?_ | refine qw8 ?_ | refine qw9 ?_ | refine qw0 ?_) | refine thenQ_n ?_ | refine thenQ_e ?_ | refine thenQ_r ?_ | refine blockQ_n ?_ | refine blockQ_r ?_ | refine blockQ_hit ?_ | refine qb4 ?_ | refine qe ?_ | refine loopQ_e ?_ | refine loopQ_r ?_
    all_goals clear E
    refine W_loopQ (fun j : Nat => [(20, dInt j), (19, dInt f.ins.length), (18, .d (.sl (inss f.ins))), (4, dInt k), (12, dInt k), (11, dInt c.funs.length), (10, .d (.sl (fns c.funs))), (3, .ref 58 0 (guessTo c k ++ guessFn c k f.ins j).length), (1, .ptr 1 0 0)]) (fun j => [(58, some (.row 3 (hintsD (guessTo c k ++ guessFn c k f.ins j)))), (1, some (.box c.cells))]) (fun j => f.ins.length - j) (fun j => j ≤ f.ins.length) 0 (by omega) (by rw [show guessFn c k f.ins 0 = [] from rfl, List.append_nil]; exact qs) fun j hj => ?_
    by_cases hjl : j < f.ins.length
    · obtain ⟨x, hx⟩ := get_ex hjl
      have hj1 : (j:Int) < f.ins.length := by omega
      have hgf := guessFn_len c k f.ins j
      have hA : (guessTo c k ++ guessFn c k f.ins j).length ≤ 1099513724928 := by
        rw [List.length_append]
        have : k * 1048576 ≤ 1048576 * 1048576 := Nat.mul_le_mul_right _ (by omega)
        omega
      have eS : guessTo c k ++ guessFn c k f.ins (j + 1) = (guessTo c k ++ guessFn c k f.ins j) ++ guessIns c k j x := by rw [guessFn_succ _ _ _ _ hx, List.append_assoc]
      generalize guessTo c k ++ guessFn c k f.ins j = A at *
      have e1 := hintsD_take A
      by_cases h7 : x.op = 7
      · have e7 : decide (x.op = 7) = true := by simp [h7]
        cases hw : wi x.b c.texts.length with
        | false =>
          have eG : guessIns c k j x = [] := by simp [guessIns, hw]
          rcases wi_cases hw with h | ⟨h, h'⟩
          · have E := And.intro @hj1 (And.intro (inss_get hx) (And.intro @e7 (@h)))
            repeat' first | refine R_nil ?_ | ((with_reducible apply tagG); first | refine qg1 ?_ | refine qg2 ?_ | refine qg3 ?_ | refine qg4 ?_ | refine qg5 ?_ | refine qg6 (fun hb => ?_) (fun hb => ?_)) | ((with_reducible apply tagS); first | ((with_reducible apply tagD); first | refine qd1 ?_ | refine qd3 ?_) | ((with_reducible apply tagR); first | refine qr1 ?_ | refine qr3 ?_)) | ((with_reducible apply tagN); first | ((with_reducible apply tagD); first | refine qd2 ?_ | refine qd4 ?_) | ((with_reducible apply tagR); first | refine qr2 ?_ | refine qr4 ?_)) | ((with_reducible apply tagW); first | refine qw1 ?_ | refine qw2 ?_ | refine qw3 ?_ | refine qw4 ?_ | refine qw5 ?_ | refine qw6 (fun hb => ?_) (fun hb => ?_) | refine qw7 ?_ | refine qw8 ?_ | refine qw9 ?_ | refine qw0 ?_) | refine thenQ_n ?_ | refine thenQ_e ?_ | refine thenQ_r ?_ | refine blockQ_n ?_ | refine blockQ_r ?_ | refine blockQ_hit ?_ | refine qb4 ?_ | refine qe ?_ | refine loopQ_e ?_ | refine loopQ_r ?_
            all_goals clear E
            refine loopQ_n (j + 1) (by omega) (by omega) (by rw [eS, eG, List.append_nil]; exact qs)
          · have E := And.intro @hj1 (And.intro (inss_get hx) (And.intro @e7 (And.intro @h (@h'))))
            repeat' first | refine R_nil ?_ | ((with_reducible apply tagG); first | refine qg1 ?_ | refine qg2 ?_ | refine qg3 ?_ | refine qg4 ?_ | refine qg5 ?_ | refine qg6 (fun hb => ?_) (fun hb => ?_)) | ((with_reducible apply tagS); first | ((with_reducible apply tagD); first | refine qd1 ?_ | refine qd3 ?_) | ((with_reducible apply tagR); first | refine qr1 ?_ | refine qr3 ?_)) | ((with_reducible apply tagN); first | ((with_reducible apply tagD); first | refine qd2 ?_ | refine qd4 ?_) | ((with_reducible apply tagR); first | refine qr2 ?_ | refine qr4 ?_)) | ((with_reducible apply tagW); first | refine qw1 ?_ | refine qw2 ?_ | refine qw3 ?_ | refine qw4 ?_ | refine qw5 ?_ | refine qw6 (fun hb => ?_) (fun hb => ?_) | refine qw7 ?_ | refine qw8 ?_ | refine qw9 ?_ | refine qw0 ?_) | refine thenQ_n ?_ | refine thenQ_e ?_ | refine thenQ_r ?_ | refine blockQ_n ?_ | refine blockQ_r ?_ | refine blockQ_hit ?_ | refine qb4 ?_ | refine qe ?_ | refine loopQ_e ?_ | refine loopQ_r ?_
            all_goals clear E
            refine loopQ_n (j + 1) (by omega) (by omega) (by rw [eS, eG, List.append_nil]; exact qs)
        | true =>
          obtain ⟨s, hst, hb0, hb1⟩ := wi_get hw
          have hb2 : ¬ x.b < 0 := by omega
          have hb3 : ¬ (c.texts.length : Int) ≤ x.b := by omega
          have hC43 := C43a c.impls c x s hb0 hst hc.ok.impls
          have htx : textAt c x.b = s := by simp [textAt, hst]
          rcases idx_find (fun x : Impl => decide (x.name = s)) c.impls 0 with ⟨n1, n2⟩ | ⟨n, m, n1, n2, n3⟩
          · rw [n1] at hC43
            have eG : guessIns c k j x = [] := by simp [guessIns, htx, n2]
            have m1 : ¬ (0 : Int) ≤ -1 := by decide
            have E := And.intro @hj1 (And.intro (inss_get hx) (And.intro @e7 (And.intro @hb2 (And.intro @hb3 (@m1)))))
            repeat' first | refine R_nil ?_ | ((with_reducible apply tagG); first | refine qg1 ?_ | refine qg2 ?_ | refine qg3 ?_ | refine qg4 ?_ | refine qg5 ?_ | refine qg6 (fun hb => ?_) (fun hb => ?_)) | ((with_reducible apply tagK); first | ((with_reducible apply tagD); first | refine qd7 [1, 7] (hC43) ?_ | refine qd6 [1, 7] (hC43) ?_) | ((with_reducible apply tagR); first | refine qr7 [1, 7] (hC43) ?_ | refine qr6 [1, 7] (hC43) ?_)) | ((with_reducible apply tagS); first | ((with_reducible apply tagD); first | refine qd1 ?_ | refine qd3 ?_) | ((with_reducible apply tagR); first | refine qr1 ?_ | refine qr3 ?_)) | ((with_reducible apply tagN); first | ((with_reducible apply tagD); first | refine qd2 ?_ | refine qd4 ?_) | ((with_reducible apply tagR); first | refine qr2 ?_ | refine qr4 ?_)) | ((with_reducible apply tagW); first | refine qw1 ?_ | refine qw2 ?_ | refine qw3 ?_ | refine qw4 ?_ | refine qw5 ?_ | refine qw6 (fun hb => ?_) (fun hb => ?_) | refine qw7 ?_ | refine qw8 ?_ | refine qw9 ?_ | refine qw0 ?_) | refine thenQ_n ?_ | refine thenQ_e ?_ | refine thenQ_r ?_ | refine blockQ_n ?_ | refine blockQ_r ?_ | refine blockQ_hit ?_ | refine qb4 ?_ | refine qe ?_ | refine loopQ_e ?_ | refine loopQ_r ?_
            all_goals clear E
            refine loopQ_n (j + 1) (by omega) (by omega) (by rw [eS, eG, List.append_nil]; exact qs)
          · rw [Int.zero_add] at n1
            rw [n1] at hC43
            have hn0 : (0 : Int) ≤ (n : Int) := by omega
            have hnl : (n : Int) < c.impls.length := by have := (List.getElem?_eq_some_iff.1 n2).1; omega
            have eG : guessIns c k j x = [⟨k, j, m.for_⟩] := by simp [guessIns, h7, hw, htx, n3]
            have e2 := hintsD_app A k j m.for_
            have E := And.intro @hj1 (And.intro (inss_get hx) (And.intro @e7 (And.intro @hb2 (And.intro @hb3 (And.intro @hn0 (And.intro @hnl (And.intro (implsD_get n2) (And.intro @e1 (@e2)))))))))
            repeat' first | refine R_nil ?_ | ((with_reducible apply tagG); first | refine qg1 ?_ | refine qg2 ?_ | refine qg3 ?_ | refine qg4 ?_ | refine qg5 ?_ | refine qg6 (fun hb => ?_) (fun hb => ?_)) | ((with_reducible apply tagK); first | ((with_reducible apply tagD); first | refine qd7 [1, 7] (hC43) ?_ | refine qd6 [1, 7] (hC43) ?_) | ((with_reducible apply tagR); first | refine qr7 [1, 7] (hC43) ?_ | refine qr6 [1, 7] (hC43) ?_)) | ((with_reducible apply tagS); first | ((with_reducible apply tagD); first | refine qd1 ?_ | refine qd3 ?_) | ((with_reducible apply tagR); first | refine qr1 ?_ | refine qr3 ?_)) | ((with_reducible apply tagN); first | ((with_reducible apply tagD); first | refine qd2 ?_ | refine qd4 ?_) | ((with_reducible apply tagR); first | refine qr2 ?_ | refine qr4 ?_)) | ((with_reducible apply tagW); first | refine qw1 ?_ | refine qw2 ?_ | refine qw3 ?_ | refine qw4 ?_ | refine qw5 ?_ | refine qw6 (fun hb => ?_) (fun hb => ?_) | refine qw7 ?_ | refine qw8 ?_ | refine qw9 ?_ | refine qw0 ?_) | refine thenQ_n ?_ | refine thenQ_e ?_ | refine thenQ_r ?_ | refine blockQ_n ?_ | refine blockQ_r ?_ | refine blockQ_hit ?_ | refine qb4 ?_ | refine qe ?_ | refine loopQ_e ?_ | refine loopQ_r ?_
            all_goals clear E
            refine loopQ_n (j + 1) (by omega) (by omega) (by rw [eS, eG]; exact qs)
      · have e7 : decide (x.op = 7) = false := by simp [h7]
        have eG : guessIns c k j x = [] := by simp [guessIns, h7]
        have E := And.intro @hj1 (And.intro (inss_get hx) (@e7))
        repeat' first | refine R_nil ?_ | ((with_reducible apply tagG); first | refine qg1 ?_ | refine qg2 ?_ | refine qg3 ?_ | refine qg4 ?_ | refine qg5 ?_ | refine qg6 (fun hb => ?_) (fun hb => ?_)) | ((with_reducible apply tagS); first | ((with_reducible apply tagD); first | refine qd1 ?_ | refine qd3 ?_) | ((with_reducible apply tagR); first | refine qr1 ?_ | refine qr3 ?_)) | ((with_reducible apply tagN); first | ((with_reducible apply tagD); first | refine qd2 ?_ | refine qd4 ?_) | ((with_reducible apply tagR); first | refine qr2 ?_ | refine qr4 ?_)) | ((with_reducible apply tagW); first | refine qw1 ?_ | refine qw2 ?_ | refine qw3 ?_ | refine qw4 ?_ | refine qw5 ?_ | refine qw6 (fun hb => ?_) (fun hb => ?_) | refine qw7 ?_ | refine qw8 ?_ | refine qw9 ?_ | refine qw0 ?_) | refine thenQ_n ?_ | refine thenQ_e ?_ | refine thenQ_r ?_ | refine blockQ_n ?_ | refine blockQ_r ?_ | refine blockQ_hit ?_ | refine qb4 ?_ | refine qe ?_ | refine loopQ_e ?_ | refine loopQ_r ?_
        all_goals clear E
        refine loopQ_n (j + 1) (by omega) (by omega) (by rw [eS, eG, List.append_nil]; exact qs)
    · have hj0 : ¬ (j:Int) < f.ins.length := by omega
      have ej : j = f.ins.length := by omega
      subst ej
      have hgf := guessFn_len c k f.ins f.ins.length
      rw [← guessTo_succ c k hf]
      have E := @hj0
      repeat' first | refine R_nil ?_ | ((with_reducible apply tagG); first | refine qg1 ?_ | refine qg2 ?_ | refine qg3 ?_ | refine qg4 ?_ | refine qg5 ?_ | refine qg6 (fun hb => ?_) (fun hb => ?_)) | ((with_reducible apply tagS); first | ((with_reducible apply tagD); first | refine qd1 ?_ | refine qd3 ?_) | ((with_reducible apply tagR); first | refine qr1 ?_ | refine qr3 ?_)) | ((with_reducible apply tagN); first | ((with_reducible apply tagD); first | refine qd2 ?_ | refine qd4 ?_) | ((with_reducible apply tagR); first | refine qr2 ?_ | refine qr4 ?_)) | ((with_reducible apply tagW); first | refine qw1 ?_ | refine qw2 ?_ | refine qw3 ?_ | refine qw4 ?_ | refine qw5 ?_ | refine qw6 (fun hb => ?_) (fun hb => ?_) | refine qw7 ?_ | refine qw8 ?_ | refine qw9 ?_ | refine qw0 ?_) | refine thenQ_n ?_ | refine thenQ_e ?_ | refine thenQ_r ?_ | refine blockQ_n ?_ | refine blockQ_r ?_ | refine blockQ_hit ?_ | refine qb4 ?_ | refine qe ?_ | refine loopQ_e ?_ | refine loopQ_r ?_
      all_goals clear E
      refine loopQ_n (k + 1) (by omega) ⟨by omega, ?_⟩ qs
      rw [guessTo_succ c k hf, List.length_append, Nat.add_mul]; omega
  · have hk0 : ¬ (k:Int) < c.funs.length := by omega
    have ek : k = c.funs.length := by omega
    subst ek
    have e1 := hintsD_take (guessTo c c.funs.length)
    have E := @hk0
    repeat' first | refine R_nil ?_ | ((with_reducible apply tagG); first | refine qg1 ?_ | refine qg2 ?_ | refine qg3 ?_ | refine qg4 ?_ | refine qg5 ?_ | refine qg6 (fun hb => ?_) (fun hb => ?_)) | ((with_reducible apply tagS); first | ((with_reducible apply tagD); first | refine qd1 ?_ | refine qd3 ?_) | ((with_reducible apply tagR); first | refine qr1 ?_ | refine qr3 ?_)) | ((with_reducible apply tagN); first | ((with_reducible apply tagD); first | refine qd2 ?_ | refine qd4 ?_) | ((with_reducible apply tagR); first | refine qr2 ?_ | refine qr4 ?_)) | ((with_reducible apply tagW); first | refine qw1 ?_ | refine qw2 ?_ | refine qw3 ?_ | refine qw4 ?_ | refine qw5 ?_ | refine qw6 (fun hb => ?_) (fun hb => ?_) | refine qw7 ?_ | refine qw8 ?_ | refine qw9 ?_ | refine qw0 ?_) | refine thenQ_n ?_ | refine thenQ_e ?_ | refine thenQ_r ?_ | refine blockQ_n ?_ | refine blockQ_r ?_ | refine blockQ_hit ?_ | refine qb4 ?_ | refine qe ?_ | refine loopQ_e ?_ | refine loopQ_r ?_
    all_goals clear E
    exact ret_ref rfl rfl rfl (by rw [List.drop_zero, e1]; rfl)
end Go.Pw
