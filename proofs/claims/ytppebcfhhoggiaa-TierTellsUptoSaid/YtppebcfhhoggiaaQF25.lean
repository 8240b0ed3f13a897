/- Functions: a function compiled again. -/
import Derived.Test.YtppebcfhhoggiaaQF24
set_option linter.unusedVariables false
set_option linter.unusedSimpArgs false
namespace Go.Pw
open Go Go.Proofs
attribute [local irreducible] runL W endD thenQ blockQ loopQ
set_option maxRecDepth 8000
set_option maxHeartbeats 16000000
theorem inss_take (l : List Ins) : (inss l).take l.length = inss l := List.take_of_length_le (by rw [inss_len]; omega)
theorem inss_app (l : List Ins) (x : Ins) : inss l ++ [[DI x.op, DI x.a, DI x.b, DI x.c, D.sl (ints x.args)]] = inss (l ++ [x]) := by simp [inss, Ins.row]
theorem inss_app2 (l : List Ins) (x y : Ins) : inss l ++ [[DI x.op, DI x.a, DI x.b, DI x.c, D.sl (ints x.args)], [DI y.op, DI y.a, DI y.b, DI y.c, D.sl (ints y.args)]] = inss (l ++ [x, y]) := by simp [inss, Ins.row]
theorem map_step {α : Type} {l : List α} {j : Nat} {y : α} (g : α → α) (hy : l[j]? = some y) : ((l.take j).map g ++ l.drop j).set j (g y) = (l.take (j + 1)).map g ++ l.drop (j + 1) := by
  have hj := (List.getElem?_eq_some_iff.1 hy).1
  have e : ((l.take j).map g).length = j := by simp; omega
  rw [List.set_append, if_neg (by omega), e, Nat.sub_self, drop_some hy, List.set_cons_zero, List.take_add_one, hy]
  simp
theorem map_get {α : Type} {l : List α} {j : Nat} {y : α} (g : α → α) (hy : l[j]? = some y) : ((l.take j).map g ++ l.drop j)[j]? = some y := by
  have hj := (List.getElem?_eq_some_iff.1 hy).1
  have e0 : ((l.take j).map g).length = j := by simp; omega
  rw [List.getElem?_append_right (by omega), e0, Nat.sub_self, List.getElem?_drop]; exact hy
theorem C10 (c : Cod) (f : Fn) (fn : Int) (l : List Hint) (hc : c.Ok) (hl : Sm l) (h0 : codErr c = 0) (hw : wi fn c.funs.length = true) (hf : c.funs[fn.toNat]? = some f) (hsm : ∀ i ∈ f.ins, i.args.length ≤ 1048576) :
    C Try.prog 10 [c.av, dInt fn, .d (.sl (hintsD l))] [] (.tup [(fastOf c l fn f).av, dInt 0]) [] [] := by
  have hC39 := C39 c hc
  rw [h0] at hC39
  have hgd := good_of h0
  have hfm := List.mem_of_getElem? hf
  have hfg := fnGood_of (hgd.fun0 f hfm)
  have hlen := hfg.len
  have hin := hfg.inside
  simp only [wi, Bool.and_eq_true, decide_eq_true_eq] at hw
  obtain ⟨w0, w1⟩ := hw
  have w2 : ¬ fn < 0 := by omega
  have w3 : ¬ (c.funs.length : Int) ≤ fn := by omega
  have hfs : Sm f.ins := by show _ ≤ _; omega
  have hat0 : (ints (List.replicate f.ins.length 0)) = List.replicate f.ins.length [DI 0] := by simp [ints]
  have he44 : ints (atOf c l fn f.ins 0 ++ List.replicate (f.ins.length - (atOf c l fn f.ins 0).length) 0) = List.replicate f.ins.length [DI 0] := by simp [atOf, ints]
  have hp0 : inss (pass1 c l fn f.ins 0) = [] := rfl
  refine C_intro T_ok (rs := [.cell 6 40, .tmp 7]) Try.func10 rfl rfl rfl (Nat.le_of_ble_eq_true rfl) (Nat.le_of_ble_eq_true rfl) rfl ⟨rfl, rfl⟩ rfl fun cx hn => ?_
  have hn : cx.n = 111 := hn
  have Y := And.intro T3 (And.intro T4 (And.intro T9 (And.intro T22 (And.intro T23 (And.intro T24 (And.intro T25 (And.intro T26 (And.intro T27 (And.intro T28 (And.intro T30 (And.intro T36 (And.intro T38 (And.intro T40 (And.intro T46 (And.intro T48 (And.intro T60 (And.intro T61 (And.intro T63 (And.intro T67 (And.intro T75 (And.intro T77 (T85))))))))))))))))))))))
  simp only [enumA, enumO, Nat.reduceAdd]
  have E := And.intro @w0 (And.intro @w1 (And.intro @w2 (And.intro @w3 ((fns_get hf)))))
  repeat' first | refine R_nil ?_ | ((with_reducible apply tagG); first | refine qg1 ?_ | refine qg2 ?_ | refine qg3 ?_ | refine qg4 ?_ | refine qg5 ?_ | refine qg6 (fun hb => ?_) (fun hb => ?_)) | ((with_reducible apply tagK); first | ((with_reducible apply tagD); first | refine qd5 (hC39) ?_) | ((with_reducible apply tagR); first | refine qr5 (hC39) ?_)) | ((with_reducible apply tagS); first | ((with_reducible apply tagD); first | refine qd1 ?_ | refine qd3 ?_) | ((with_reducible apply tagR); first | refine qr1 ?_ | refine qr3 ?_)) | ((with_reducible apply tagN); first | ((with_reducible apply tagD); first | refine qd2 ?_ | refine qd4 ?_) | ((with_reducible apply tagR); first | refine qr2 ?_ | refine qr4 ?_)) | ((with_reducible apply tagW); first | refine qw1 ?_ | refine qw2 ?_ | refine qw3 ?_ | refine qw4 ?_ | refine qw5 ?_ | refine qw6 (fun hb => ?_) (fun hb => ?_) | refine qw7 ?_ | refine qw8 ?_ | refine qw9 ?_ | refine qw0 ?_) | refine thenQ_n ?_ | refine thenQ_e ?_ | refine thenQ_r ?_ | refine blockQ_n ?_ | refine blockQ_r ?_ | refine blockQ_hit ?_ | refine qb4 ?_ | refine qe ?_ | refine loopQ_e ?_ | refine loopQ_r ?_
  all_goals clear E
  refine W_ghost (G_adopt 11 73 5 rfl rfl (.inr (by decide))) ?_
  refine W_loopQ (fun k : Nat => [(48, dInt k), (47, dInt f.ins.length), (46, .d (.sl (inss f.ins))), (10, .ref 44 0 f.ins.length), (11, .ref 73 0 (pass1 c l fn f.ins k).length), (12, dBool (anyD c l fn f.ins k)), (9, .ptr 9 0 0), (3, .ptr 3 0 0), (6, .ptr 6 0 0), (1, dInt fn), (2, .d (.sl (hintsD l)))])
    (fun k => [(44, some (.row 1 (ints (atOf c l fn f.ins k ++ List.replicate (f.ins.length - (atOf c l fn f.ins k).length) 0)))), (73, some (.row 5 (inss (pass1 c l fn f.ins k)))), (9, some (.box f.cells)), (3, some (.box c.cells)), (6, some (.box [dStr ByteArray.empty, dInt 0, dInt 0, dInt 0, .full []]))])
    (fun k => f.ins.length - k) (fun k => k ≤ f.ins.length) 0 (by omega) (by
      have E := And.intro he44 hp0
      exact qs) fun k hk => ?_
  · by_cases hkl : k < f.ins.length
    · obtain ⟨x, hx⟩ := get_ex hkl
      have hk1 : (k:Int) < f.ins.length := by omega
      have hxm := List.mem_of_getElem? hx
      have hxs := hsm x hxm
      have hxs' : Sm x.args := by show _ ≤ _; omega
      have hC40 := C40 c x fn k l hc hl hxs' hgd.imps (hfg.trait hxm)
      have hpl := pass1_len c l fn f.ins k
      have haL := atOf_len c l fn f.ins k
      have eS := at_set (atOf c l fn f.ins k) f.ins.length ((pass1 c l fn f.ins k).length : Int) (by omega)
      rw [haL, ← atOf_succ] at eS
      have hLL : (ints (atOf c l fn f.ins k ++ List.replicate (f.ins.length - (atOf c l fn f.ins k).length) 0)).length = f.ins.length := by
        rw [ints_len, List.length_append, List.length_replicate, haL]; omega
      rw [haL] at hLL ⊢
      have gX : (ints (atOf c l fn f.ins k ++ List.replicate (f.ins.length - k) 0)).getD k [] = [DI 0] := by
        obtain ⟨m, hm⟩ : ∃ m, f.ins.length - k = m + 1 := ⟨f.ins.length - k - 1, by omega⟩
        refine ints_get (x := 0) ?_
        rw [List.getElem?_append_right (by omega), haL, hm]; simp
      have e1 := inss_take (pass1 c l fn f.ins k)
      cases hd : direct c l fn k x with
      | some tn =>
        rw [hd] at hC40
        simp only [guardR] at hC40
        have e2 := inss_app2 (pass1 c l fn f.ins k) (guardI x k tn) (callI x tn)
        have eP : pass1 c l fn f.ins (k + 1) = pass1 c l fn f.ins k ++ [guardI x k tn, callI x tn] := by rw [pass1_succ _ _ _ _ _ hx, firstP, hd]
        have eB : anyD c l fn f.ins (k + 1) = true := by rw [anyD_succ _ _ _ _ _ hx, hd]; simp
        have E := And.intro @hk1 (And.intro (inss_get hx) (And.intro @gX (And.intro @hLL (And.intro @eS (And.intro @e1 (@e2))))))
        repeat' first | refine R_nil ?_ | ((with_reducible apply tagG); first | refine qg1 ?_ | refine qg2 ?_ | refine qg3 ?_ | refine qg4 ?_ | refine qg5 ?_ | refine qg6 (fun hb => ?_) (fun hb => ?_)) | ((with_reducible apply tagK); first | ((with_reducible apply tagD); first | refine qd5 (hC40) ?_) | ((with_reducible apply tagR); first | refine qr5 (hC40) ?_)) | ((with_reducible apply tagS); first | ((with_reducible apply tagD); first | refine qd1 ?_ | refine qd3 ?_) | ((with_reducible apply tagR); first | refine qr1 ?_ | refine qr3 ?_)) | ((with_reducible apply tagN); first | ((with_reducible apply tagD); first | refine qd2 ?_ | refine qd4 ?_) | ((with_reducible apply tagR); first | refine qr2 ?_ | refine qr4 ?_)) | ((with_reducible apply tagW); first | refine qw1 ?_ | refine qw2 ?_ | refine qw3 ?_ | refine qw4 ?_ | refine qw5 ?_ | refine qw6 (fun hb => ?_) (fun hb => ?_) | refine qw7 ?_ | refine qw8 ?_ | refine qw9 ?_ | refine qw0 ?_) | refine thenQ_n ?_ | refine thenQ_e ?_ | refine thenQ_r ?_ | refine blockQ_n ?_ | refine blockQ_r ?_ | refine blockQ_hit ?_ | refine qb4 ?_ | refine qe ?_ | refine loopQ_e ?_ | refine loopQ_r ?_
        all_goals clear E
        refine loopQ_n (k + 1) (by omega) (by omega) (by rw [eP, eB]; exact qs)
      | none =>
        rw [hd] at hC40
        simp only [guardR] at hC40
        have e2 := inss_app (pass1 c l fn f.ins k) x
        have eP : pass1 c l fn f.ins (k + 1) = pass1 c l fn f.ins k ++ [x] := by rw [pass1_succ _ _ _ _ _ hx, firstP, hd]
        have eB : anyD c l fn f.ins (k + 1) = anyD c l fn f.ins k := by rw [anyD_succ _ _ _ _ _ hx, hd]; simp
        have E := And.intro @hk1 (And.intro (inss_get hx) (And.intro @gX (And.intro @hLL (And.intro @eS (And.intro @e1 (@e2))))))
        repeat' first | refine R_nil ?_ | ((with_reducible apply tagG); first | refine qg1 ?_ | refine qg2 ?_ | refine qg3 ?_ | refine qg4 ?_ | refine qg5 ?_ | refine qg6 (fun hb => ?_) (fun hb => ?_)) | ((with_reducible apply tagK); first | ((with_reducible apply tagD); first | refine qd5 (hC40) ?_ | refine qd5 (C41 x hxs') ?_) | ((with_reducible apply tagR); first | refine qr5 (hC40) ?_ | refine qr5 (C41 x hxs') ?_)) | ((with_reducible apply tagS); first | ((with_reducible apply tagD); first | refine qd1 ?_ | refine qd3 ?_) | ((with_reducible apply tagR); first | refine qr1 ?_ | refine qr3 ?_)) | ((with_reducible apply tagN); first | ((with_reducible apply tagD); first | refine qd2 ?_ | refine qd4 ?_) | ((with_reducible apply tagR); first | refine qr2 ?_ | refine qr4 ?_)) | ((with_reducible apply tagW); first | refine qw1 ?_ | refine qw2 ?_ | refine qw3 ?_ | refine qw4 ?_ | refine qw5 ?_ | refine qw6 (fun hb => ?_) (fun hb => ?_) | refine qw7 ?_ | refine qw8 ?_ | refine qw9 ?_ | refine qw0 ?_) | refine thenQ_n ?_ | refine thenQ_e ?_ | refine thenQ_r ?_ | refine blockQ_n ?_ | refine blockQ_r ?_ | refine blockQ_hit ?_ | refine qb4 ?_ | refine qe ?_ | refine loopQ_e ?_ | refine loopQ_r ?_
        all_goals clear E
        refine loopQ_n (k + 1) (by omega) (by omega) (by rw [eP, eB]; exact qs)
    have hk0 : ¬ (k:Int) < f.ins.length := by omega
    have ek : k = f.ins.length := by omega
    subst ek
    rw [atOf_len, Nat.sub_self, List.replicate_zero, List.append_nil]
    have hpl := pass1_len c l fn f.ins f.ins.length
    have hAl := atOf_len c l fn f.ins f.ins.length
    have hF : fastOf c l fn f = ⟨f.name, f.params, f.holds, f.regs, if anyD c l fn f.ins f.ins.length || (pass1 c l fn f.ins f.ins.length).any (movedG f) then (pass1 c l fn f.ins f.ins.length).map (shortG f (atOf c l fn f.ins f.ins.length)) else []⟩ := rfl
    have hPm : ∀ y, y ∈ pass1 c l fn f.ins f.ins.length → y.op = 27 ∨ (Tgt f.ins.length y ∧ y.args.length ≤ 1048576) := by
      intro y hy
      rcases mem_pass1 hy with h | ⟨tn, i, rfl, hi⟩ | h
      · exact .inl h
      · exact .inr ⟨tgt_call _ _ _, hsm i hi⟩
      · exact .inr ⟨hfg.tgt h, hsm y h⟩
    generalize pass1 c l fn f.ins f.ins.length = P at *
    generalize anyD c l fn f.ins f.ins.length = b1 at *
    generalize atOf c l fn f.ins f.ins.length = A at *
    have eA := take_all A A.length (Nat.le_refl _)
    rw [hAl] at eA
    have E := @hk0
    repeat' first | refine R_nil ?_ | ((with_reducible apply tagG); first | refine qg1 ?_ | refine qg2 ?_ | refine qg3 ?_ | refine qg4 ?_ | refine qg5 ?_ | refine qg6 (fun hb => ?_) (fun hb => ?_)) | ((with_reducible apply tagS); first | ((with_reducible apply tagD); first | refine qd1 ?_ | refine qd3 ?_) | ((with_reducible apply tagR); first | refine qr1 ?_ | refine qr3 ?_)) | ((with_reducible apply tagN); first | ((with_reducible apply tagD); first | refine qd2 ?_ | refine qd4 ?_) | ((with_reducible apply tagR); first | refine qr2 ?_ | refine qr4 ?_)) | ((with_reducible apply tagW); first | refine qw1 ?_ | refine qw2 ?_ | refine qw3 ?_ | refine qw4 ?_ | refine qw5 ?_ | refine qw6 (fun hb => ?_) (fun hb => ?_) | refine qw7 ?_ | refine qw8 ?_ | refine qw9 ?_ | refine qw0 ?_) | refine thenQ_n ?_ | refine thenQ_e ?_ | refine thenQ_r ?_ | refine blockQ_n ?_ | refine blockQ_r ?_ | refine blockQ_hit ?_ | refine qb4 ?_ | refine qe ?_ | refine loopQ_e ?_ | refine loopQ_r ?_
    all_goals clear E
    have E := eA
    refine W_ghost (G_d [44]) ?_
    clear E
    refine W_loopQ (fun k : Nat => [(82, dInt k), (81, dInt P.length), (11, .ref 73 0 P.length), (10, .d (.sl (ints A))), (12, dBool (b1 || (P.take k).any (movedG f))), (9, .ptr 9 0 0), (6, .ptr 6 0 0)])
      (fun k => [(73, some (.row 5 (inss ((P.take k).map (shortG f A) ++ P.drop k)))), (9, some (.box f.cells)), (6, some (.box [dStr ByteArray.empty, dInt 0, dInt 0, dInt 0, .d (.sl [])]))])
      (fun k => P.length - k) (fun k => k ≤ P.length) 0 (by omega) (by simp only [List.take_zero, List.map_nil, List.nil_append, List.drop_zero, List.any_nil, Bool.or_false]; exact qs) fun k hk => ?_
    by_cases hkl : k < P.length
    · obtain ⟨x, hx⟩ := get_ex hkl
      have hk1 : (k:Int) < P.length := by omega
      have hyB := map_get (shortG f A) hx
      have hlB : ((P.take k).map (shortG f A) ++ P.drop k).length = P.length := by simp; omega
      have eQ := map_step (shortG f A) hx
      have eB : (P.take (k + 1)).any (movedG f) = ((P.take k).any (movedG f) || movedG f x) := by
        rw [List.take_add_one, hx, List.any_append]; simp
      generalize (P.take k).map (shortG f A) ++ P.drop k = B at *
      generalize (P.take k).any (movedG f) = b0 at *
      cases h27 : decide (x.op = 27) with
      | true =>
        have e27 : x.op = 27 := by simpa using h27
        have eQ' : (P.take (k + 1)).map (shortG f A) ++ P.drop (k + 1) = B := by rw [← eQ, show shortG f A x = x by simp [shortG, e27], set_same hyB]
        have eM : movedG f x = false := by simp [movedG, e27]
        have E := And.intro @hk1 (And.intro (inss_get hyB) (And.intro @h27 (@hlB)))
        repeat' first | refine R_nil ?_ | ((with_reducible apply tagG); first | refine qg1 ?_ | refine qg2 ?_ | refine qg3 ?_ | refine qg4 ?_ | refine qg5 ?_ | refine qg6 (fun hb => ?_) (fun hb => ?_)) | ((with_reducible apply tagS); first | ((with_reducible apply tagD); first | refine qd1 ?_ | refine qd3 ?_) | ((with_reducible apply tagR); first | refine qr1 ?_ | refine qr3 ?_)) | ((with_reducible apply tagN); first | ((with_reducible apply tagD); first | refine qd2 ?_ | refine qd4 ?_) | ((with_reducible apply tagR); first | refine qr2 ?_ | refine qr4 ?_)) | ((with_reducible apply tagW); first | refine qw1 ?_ | refine qw2 ?_ | refine qw3 ?_ | refine qw4 ?_ | refine qw5 ?_ | refine qw6 (fun hb => ?_) (fun hb => ?_) | refine qw7 ?_ | refine qw8 ?_ | refine qw9 ?_ | refine qw0 ?_) | refine thenQ_n ?_ | refine thenQ_e ?_ | refine thenQ_r ?_ | refine blockQ_n ?_ | refine blockQ_r ?_ | refine blockQ_hit ?_ | refine qb4 ?_ | refine qe ?_ | refine loopQ_e ?_ | refine loopQ_r ?_
        all_goals clear E
        refine loopQ_n (k + 1) (by omega) (by omega) (by rw [eB, eM, eQ', Bool.or_false]; exact qs)
      | false =>
        have e27 : ¬ x.op = 27 := by simpa using h27
        rcases hPm x (List.mem_of_getElem? hx) with h | ⟨hT, hxa⟩
        · exact absurd h e27
        have eG : shortG f A x = shortI f A x := by simp [shortG, e27]
        have eM : movedG f x = shortB f x := by simp [movedG, e27]
        have hC42 := C42 f B k x A hfs hin hAl hyB hT hxa
        rw [← eG, eQ] at hC42
        cases hb : shortB f x with
        | true =>
          rw [hb] at hC42
          have E := And.intro @hk1 (And.intro (inss_get hyB) (And.intro @h27 (@hlB)))
          repeat' first | refine R_nil ?_ | ((with_reducible apply tagG); first | refine qg1 ?_ | refine qg2 ?_ | refine qg3 ?_ | refine qg4 ?_ | refine qg5 ?_ | refine qg6 (fun hb => ?_) (fun hb => ?_)) | ((with_reducible apply tagK); first | ((with_reducible apply tagD); first | refine qd7 [73] (hC42) ?_ | refine qd6 [73] (hC42) ?_) | ((with_reducible apply tagR); first | refine qr7 [73] (hC42) ?_ | refine qr6 [73] (hC42) ?_)) | ((with_reducible apply tagS); first | ((with_reducible apply tagD); first | refine qd1 ?_ | refine qd3 ?_) | ((with_reducible apply tagR); first | refine qr1 ?_ | refine qr3 ?_)) | ((with_reducible apply tagN); first | ((with_reducible apply tagD); first | refine qd2 ?_ | refine qd4 ?_) | ((with_reducible apply tagR); first | refine qr2 ?_ | refine qr4 ?_)) | ((with_reducible apply tagW); first | refine qw1 ?_ | refine qw2 ?_ | refine qw3 ?_ | refine qw4 ?_ | refine qw5 ?_ | refine qw6 (fun hb => ?_) (fun hb => ?_) | refine qw7 ?_ | refine qw8 ?_ | refine qw9 ?_ | refine qw0 ?_) | refine thenQ_n ?_ | refine thenQ_e ?_ | refine thenQ_r ?_ | refine blockQ_n ?_ | refine blockQ_r ?_ | refine blockQ_hit ?_ | refine qb4 ?_ | refine qe ?_ | refine loopQ_e ?_ | refine loopQ_r ?_
          all_goals clear E
          refine loopQ_n (k + 1) (by omega) (by omega) (by rw [eB, eM, hb, Bool.or_true, Bool.or_true]; exact qs)
        | false =>
          rw [hb] at hC42
          have E := And.intro @hk1 (And.intro (inss_get hyB) (And.intro @h27 (@hlB)))
          repeat' first | refine R_nil ?_ | ((with_reducible apply tagG); first | refine qg1 ?_ | refine qg2 ?_ | refine qg3 ?_ | refine qg4 ?_ | refine qg5 ?_ | refine qg6 (fun hb => ?_) (fun hb => ?_)) | ((with_reducible apply tagK); first | ((with_reducible apply tagD); first | refine qd7 [73] (hC42) ?_ | refine qd6 [73] (hC42) ?_) | ((with_reducible apply tagR); first | refine qr7 [73] (hC42) ?_ | refine qr6 [73] (hC42) ?_)) | ((with_reducible apply tagS); first | ((with_reducible apply tagD); first | refine qd1 ?_ | refine qd3 ?_) | ((with_reducible apply tagR); first | refine qr1 ?_ | refine qr3 ?_)) | ((with_reducible apply tagN); first | ((with_reducible apply tagD); first | refine qd2 ?_ | refine qd4 ?_) | ((with_reducible apply tagR); first | refine qr2 ?_ | refine qr4 ?_)) | ((with_reducible apply tagW); first | refine qw1 ?_ | refine qw2 ?_ | refine qw3 ?_ | refine qw4 ?_ | refine qw5 ?_ | refine qw6 (fun hb => ?_) (fun hb => ?_) | refine qw7 ?_ | refine qw8 ?_ | refine qw9 ?_ | refine qw0 ?_) | refine thenQ_n ?_ | refine thenQ_e ?_ | refine thenQ_r ?_ | refine blockQ_n ?_ | refine blockQ_r ?_ | refine blockQ_hit ?_ | refine qb4 ?_ | refine qe ?_ | refine loopQ_e ?_ | refine loopQ_r ?_
          all_goals clear E
          refine loopQ_n (k + 1) (by omega) (by omega) (by rw [eB, eM, hb, Bool.or_false]; exact qs)
    have hk0 : ¬ (k:Int) < P.length := by omega
    have ek : k = P.length := by omega
    subst ek
    rw [List.take_length, List.drop_length, List.append_nil]
    rw [hF]
    have eT : (inss (P.map (shortG f A))).take P.length = inss (P.map (shortG f A)) := List.take_of_length_le (by rw [inss_len, List.length_map]; omega)
    cases hb : (b1 || P.any (movedG f)) with
    | true =>
      have E := @hk0
      repeat' first | refine R_nil ?_ | ((with_reducible apply tagG); first | refine qg1 ?_ | refine qg2 ?_ | refine qg3 ?_ | refine qg4 ?_ | refine qg5 ?_ | refine qg6 (fun hb => ?_) (fun hb => ?_)) | ((with_reducible apply tagS); first | ((with_reducible apply tagD); first | refine qd1 ?_ | refine qd3 ?_) | ((with_reducible apply tagR); first | refine qr1 ?_ | refine qr3 ?_)) | ((with_reducible apply tagN); first | ((with_reducible apply tagD); first | refine qd2 ?_ | refine qd4 ?_) | ((with_reducible apply tagR); first | refine qr2 ?_ | refine qr4 ?_)) | ((with_reducible apply tagW); first | refine qw1 ?_ | refine qw2 ?_ | refine qw3 ?_ | refine qw4 ?_ | refine qw5 ?_ | refine qw6 (fun hb => ?_) (fun hb => ?_) | refine qw7 ?_ | refine qw8 ?_ | refine qw9 ?_ | refine qw0 ?_) | refine thenQ_n ?_ | refine thenQ_e ?_ | refine thenQ_r ?_ | refine blockQ_n ?_ | refine blockQ_r ?_ | refine blockQ_hit ?_ | refine qb4 ?_ | refine qe ?_ | refine loopQ_e ?_ | refine loopQ_r ?_
      all_goals clear E
      have E := eT
      exact finQ_g (G_d [73]) (ret_a rfl)
    | false =>
      have E := @hk0
      repeat' first | refine R_nil ?_ | ((with_reducible apply tagG); first | refine qg1 ?_ | refine qg2 ?_ | refine qg3 ?_ | refine qg4 ?_ | refine qg5 ?_ | refine qg6 (fun hb => ?_) (fun hb => ?_)) | ((with_reducible apply tagS); first | ((with_reducible apply tagD); first | refine qd1 ?_ | refine qd3 ?_) | ((with_reducible apply tagR); first | refine qr1 ?_ | refine qr3 ?_)) | ((with_reducible apply tagN); first | ((with_reducible apply tagD); first | refine qd2 ?_ | refine qd4 ?_) | ((with_reducible apply tagR); first | refine qr2 ?_ | refine qr4 ?_)) | ((with_reducible apply tagW); first | refine qw1 ?_ | refine qw2 ?_ | refine qw3 ?_ | refine qw4 ?_ | refine qw5 ?_ | refine qw6 (fun hb => ?_) (fun hb => ?_) | refine qw7 ?_ | refine qw8 ?_ | refine qw9 ?_ | refine qw0 ?_) | refine thenQ_n ?_ | refine thenQ_e ?_ | refine thenQ_r ?_ | refine blockQ_n ?_ | refine blockQ_r ?_ | refine blockQ_hit ?_ | refine qb4 ?_ | refine qe ?_ | refine loopQ_e ?_ | refine loopQ_r ?_
      all_goals clear E
      exact finQ_g (G_d [73]) (ret_a rfl)
end Go.Pw
