/- Functions of the law: a function compiled again, by the document. -/
import Derived.Test.YtppebcfhhoggiaaQF25
import Derived.Test.YtppebcfhhoggiaaQF28
import Derived.Test.YtppebcfhhoggiaaQF43
import Derived.Test.YtppebcfhhoggiaaQF44
set_option linter.unusedVariables false
set_option linter.unusedSimpArgs false
namespace Go.Pw
open Go Go.Proofs
attribute [local irreducible] runL W endD thenQ blockQ loopQ
set_option maxRecDepth 8000
set_option maxHeartbeats 16000000
theorem anyD_len (c : Cod) (l : List Hint) (fn : Int) (ins : List Ins) : ∀ k, k ≤ ins.length → k ≤ (pass1 c l fn ins k).length ∧ decide ((k : Int) < (pass1 c l fn ins k).length) = anyD c l fn ins k
  | 0, _ => by simp [pass1, anyD]
  | k + 1, h => by
    obtain ⟨x, hx⟩ := get_ex (show k < ins.length by omega)
    obtain ⟨h1, h2⟩ := anyD_len c l fn ins k (by omega)
    rw [pass1_succ _ _ _ _ _ hx, anyD_succ _ _ _ _ _ hx, ← h2, List.length_append]
    unfold firstP
    cases hd : direct c l fn k x with
    | some tn =>
      simp only [List.length_cons, List.length_nil, Option.isSome_some, Bool.or_true, decide_eq_true_eq]
      omega
    | none =>
      simp only [List.length_cons, List.length_nil, Option.isSome_none, Bool.or_false, decide_eq_decide]
      omega
theorem atOf_get (c : Cod) (l : List Hint) (fn : Int) (ins : List Ins) {n k : Nat} (h : k < n) : (atOf c l fn ins n)[k]? = some ((pass1 c l fn ins k).length : Int) := by
  unfold atOf
  rw [List.getElem?_map, List.getElem?_range h]; rfl
theorem spread_len (f : Fn) (A : List Int) : ∀ m : List Arm, (spread (m.map (armTo f A))).length = 2 * m.length + (m.flatMap (·.regs)).length
  | [] => rfl
  | a :: m => by
    have ih := spread_len f A m
    simp only [spread, List.map_cons, List.flatMap_cons, List.length_append, List.length_cons, armTo] at ih ⊢; omega
theorem spread_le (f : Fn) (A : List Int) (x : Ins) (k : Nat) : (spread (((armsOf x).take k).map (armTo f A))).length ≤ 3 * x.args.length := by
  have h1 := armsOf_len x
  have h2 := armsOf_regs x
  have h3 := spread_len f A (armsOf x)
  have h4 : (armsOf x).map (armTo f A) = ((armsOf x).take k).map (armTo f A) ++ ((armsOf x).drop k).map (armTo f A) := by rw [← List.map_append, List.take_append_drop]
  rw [h4] at h3
  simp only [spread, List.flatMap_append, List.length_append] at h3 ⊢
  omega
theorem spread_succ (f : Fn) (A : List Int) {l : List Arm} {k : Nat} {a : Arm} (ha : l[k]? = some a) : spread ((l.take (k + 1)).map (armTo f A)) = spread ((l.take k).map (armTo f A)) ++ [toA f A a.pc, (a.regs.length : Int)] ++ a.regs := by
  rw [List.take_add_one, ha]
  simp [spread, armTo]
theorem ints_app (a b : List Int) : ints a ++ ints b = ints (a ++ b) := by simp [ints]
theorem ints_app2 (l : List Int) (a b : Int) : ints l ++ [[DI a], [DI b]] = ints (l ++ [a, b]) := by simp [ints]
theorem ints_app1 (l : List Int) (a : Int) : ints l ++ [[DI a]] = ints (l ++ [a]) := by simp [ints]
theorem inss_app3 (l : List Ins) (o a b c : Int) (r : List Int) : inss l ++ [[DI o, DI a, DI b, DI c, D.sl (ints r)]] = inss (l ++ [⟨o, a, b, c, r⟩]) := by simp [inss, Ins.row]
theorem inss_appG (l : List Ins) (x : Ins) (j : Nat) (tn : Int × Int) (a0 : Int) (h : x.args[0]? = some a0) : inss l ++ [[DI 27, DI a0, DI tn.1, DI j, D.sl []], [DI 6, DI x.a, DI tn.2, DI 0, D.sl (ints x.args)]] = inss (l ++ [guardI x j tn, callI x tn]) := by
  cases ha : x.args with
  | nil => rw [ha] at h; simp at h
  | cons y r =>
    rw [ha] at h
    simp at h
    subst h
    simp [inss, Ins.row, guardI, callI, ha, ints]
theorem toA_app {f : Fn} (hin : inside f.ins) {A B : List Int} (hA : A.length = f.ins.length) {pc : Int} (h : wi pc f.ins.length = true) : toA f (A ++ B) pc = toA f A pc := by
  simp only [wi, Bool.and_eq_true, decide_eq_true_eq] at h
  have h2 := endAt_in hin f.ins.length pc h
  unfold toA toE
  rw [List.getElem?_append_left (by omega)]
theorem shortI_congr {f : Fn} {A B : List Int} {i : Ins} (h : ∀ pc, wi pc f.ins.length = true → toA f A pc = toA f B pc) (ht : Tgt f.ins.length i) : shortI f A i = shortI f B i := by
  unfold shortI
  have hm : (armsOf i).map (armTo f A) = (armsOf i).map (armTo f B) := List.map_congr_left fun a ha => by unfold armTo; rw [h _ (ht.arm a ha)]
  split
  · rename_i e; rw [h _ (ht.jump e)]
  · split
    · rename_i e; rw [h _ (ht.ifnot e)]
    · split
      · rw [hm]
      · split
        · rename_i e
          obtain ⟨y, r, hy, hyw⟩ := ht.late e
          rw [hm, hy]
          simp only [List.take_succ_cons, List.take_zero, List.map_cons, List.map_nil, lateTo]
          by_cases h0 : 0 ≤ y
          · rw [if_pos h0, if_pos h0, h _ (hyw h0)]
          · rw [if_neg h0, if_neg h0]
        · rfl
theorem shortG_call (f : Fn) (A : List Int) (x : Ins) (tn : Int × Int) : shortG f A (callI x tn) = callI x tn := by simp [shortG, shortI, callI]
theorem shortG_guard (f : Fn) (A : List Int) (x : Ins) (j : Int) (tn : Int × Int) : shortG f A (guardI x j tn) = guardI x j tn := by simp [shortG, guardI]
theorem movedG_call (f : Fn) (x : Ins) (tn : Int × Int) : movedG f (callI x tn) = false := by simp [movedG, shortB, callI]
theorem movedG_guard (f : Fn) (x : Ins) (j : Int) (tn : Int × Int) : movedG f (guardI x j tn) = false := by simp [movedG, guardI]
theorem shortG_I (f : Fn) (A : List Int) (x : Ins) : shortG f A x = shortI f A x := by
  unfold shortG
  split
  · rename_i h; simp [shortI, h]
  · rfl
theorem movedG_B (f : Fn) (x : Ins) : movedG f x = shortB f x := by
  unfold movedG
  by_cases h : x.op = 27
  · simp [h, shortB]
  · simp [h]
theorem direct_7 {c : Cod} {l : List Hint} {fn pc : Int} {i : Ins} {tn : Int × Int} (h : direct c l fn pc i = some tn) : i.op = 7 := by
  unfold direct at h
  split at h
  · assumption
  · cases h
theorem inss_nil : inss [] = [] := rfl
theorem ints_nil : ints [] = [] := rfl
theorem ints_one (a : Int) : ints [a] = [[DI a]] := rfl
def lateA (y : Int) (n : Nat) : Nat → AV
  | 0 => .full [[DI y]]
  | _ + 1 => .ref 164 0 n
def lateM (W : List Int) : Nat → List (Nat × Option Ob)
  | 0 => []
  | _ + 1 => [(164, some (.row 1 (ints W)))]
theorem C19 (c : Cod) (l : List Hint) (f : Fn) (k : Nat) (hc : c.Sz) (hl : Sm l) (h0 : codErr c = 0) (hf : c.funs[k]? = some f) (hr : roundF f.ins = false) :
    C Try.prog 19 [c.av, dInt k, .d (.sl (hintsD l))] [] (fastOf c l k f).av [] [] := by
  have hgd := good_of h0
  have hk1 : (k:Int) < c.funs.length := by have := (List.getElem?_eq_some_iff.1 hf).1; omega
  have hcf := hc.funs
  have hfm := List.mem_of_getElem? hf
  have hfl := hc.ins f hfm
  have hfg := fnGood_of (hgd.fun0 f hfm)
  have hlen := hfg.len
  have hin := hfg.inside
  have hn0 : f.ins.length ≠ 0 := by
    have := hfg.head
    simp only [headBad, Bool.or_eq_false_iff, decide_eq_false_iff_not] at this
    exact this.2
  have he1 : ints (atOf c l k f.ins (0 + 1)) = [[DI 0]] := by simp [atOf, pass1, ints]
  have he2 : (atOf c l k f.ins (0 + 1)).length = 1 := atOf_len _ _ _ _ _
  refine C_intro T_ok (rs := [.cell 6 40]) Try.func19 rfl rfl rfl (Nat.le_of_ble_eq_true rfl) (Nat.le_of_ble_eq_true rfl) rfl ⟨rfl, rfl⟩ rfl fun cx hn => ?_
  have hn : cx.n = 182 := hn
  have Y := And.intro T3 (And.intro T4 (And.intro T9 (And.intro T22 (And.intro T23 (And.intro T24 (And.intro T25 (And.intro T26 (And.intro T27 (And.intro T28 (And.intro T30 (And.intro T38 (And.intro T40 (And.intro T51 (And.intro T60 (And.intro T61 (And.intro T63 (And.intro T67 (And.intro T75 (And.intro T77 (And.intro T88 (And.intro T95 (T98))))))))))))))))))))))
  simp only [enumA, enumO, Nat.reduceAdd]
  have E := And.intro @hk1 ((fns_get hf))
  repeat' first | refine R_nil ?_ | ((with_reducible apply tagG); first | refine qg1 ?_ | refine qg2 ?_ | refine qg3 ?_ | refine qg4 ?_ | refine qg5 ?_ | refine qg6 (fun hb => ?_) (fun hb => ?_)) | ((with_reducible apply tagS); first | ((with_reducible apply tagD); first | refine qd1 ?_ | refine qd3 ?_) | ((with_reducible apply tagR); first | refine qr1 ?_ | refine qr3 ?_)) | ((with_reducible apply tagN); first | ((with_reducible apply tagD); first | refine qd2 ?_ | refine qd4 ?_) | ((with_reducible apply tagR); first | refine qr2 ?_ | refine qr4 ?_)) | ((with_reducible apply tagW); first | refine qw1 ?_ | refine qw2 ?_ | refine qw3 ?_ | refine qw4 ?_ | refine qw5 ?_ | refine qw6 (fun hb => ?_) (fun hb => ?_) | refine qw7 ?_ | refine qw8 ?_ | refine qw9 ?_ | refine qw0 ?_) | refine thenQ_n ?_ | refine thenQ_e ?_ | refine thenQ_r ?_ | refine blockQ_n ?_ | refine blockQ_r ?_ | refine blockQ_hit ?_ | refine qb4 ?_ | refine qe ?_ | refine loopQ_e ?_ | refine loopQ_r ?_
  all_goals clear E
  refine W_loopQ (fun j : Nat => [(34, dInt j), (33, dInt f.ins.length), (1, dInt k), (2, .d (.sl (hintsD l))), (3, .ptr 3 0 0), (6, .ptr 6 0 0), (7, .ptr 7 0 0), (8, .ptr 8 0 0)])
    (fun j => [(30, some (.row 1 (ints (atOf c l k f.ins (j + 1))))), (8, some (.box [.ref 30 0 (j + 1)])), (7, some (.box f.cells)), (3, some (.box c.cells)), (6, some (.box [dStr ByteArray.empty, dInt 0, dInt 0, dInt 0, .full []]))])
    (fun j => f.ins.length - j) (fun j => j ≤ f.ins.length) 0 (by omega) (by
      have E := he1
      exact qs) fun j hj => ?_
  · by_cases hjl : j < f.ins.length
    · obtain ⟨x, hx⟩ := get_ex hjl
      have hj1 : (j:Int) < f.ins.length := by omega
      have hC46 := C46 c l f x k j hc hl h0 hf hx
      have hpl := pass1_len c l k f.ins j
      have hg := atOf_get c l k f.ins (show j < j + 1 by omega)
      have hAl := atOf_len c l k f.ins (j + 1)
      have hAl2 := atOf_len c l k f.ins (j + 1 + 1)
      have eA := atOf_succ c l k f.ins (j + 1)
      rw [pass1_succ _ _ _ _ _ hx] at eA
      cases hd : direct c l k j x with
      | some tn =>
        rw [dirFull_some hd] at hC46
        simp only [tri] at hC46
        rw [show (((pass1 c l k f.ins j ++ firstP c l k j x).length : Nat) : Int) = ((pass1 c l k f.ins j).length : Int) + 2 by simp [firstP, hd]] at eA
        generalize atOf c l k f.ins (j + 1) = A at *
        have e1 := take_all A A.length (Nat.le_refl _)
        rw [hAl] at e1
        have e2 := ints_app1 A (((pass1 c l k f.ins j).length : Int) + 2)
        rw [← eA] at e2
        have E := And.intro @hj1 (And.intro (inss_get hx) (And.intro (ints_get hg) (And.intro @hAl (And.intro @e1 (And.intro @e2 (@hAl2))))))
        repeat' first | refine R_nil ?_ | ((with_reducible apply tagG); first | refine qg1 ?_ | refine qg2 ?_ | refine qg3 ?_ | refine qg4 ?_ | refine qg5 ?_ | refine qg6 (fun hb => ?_) (fun hb => ?_)) | ((with_reducible apply tagK); first | ((with_reducible apply tagD); first | refine qd5 (hC46) ?_) | ((with_reducible apply tagR); first | refine qr5 (hC46) ?_)) | ((with_reducible apply tagS); first | ((with_reducible apply tagD); first | refine qd1 ?_ | refine qd3 ?_) | ((with_reducible apply tagR); first | refine qr1 ?_ | refine qr3 ?_)) | ((with_reducible apply tagN); first | ((with_reducible apply tagD); first | refine qd2 ?_ | refine qd4 ?_) | ((with_reducible apply tagR); first | refine qr2 ?_ | refine qr4 ?_)) | ((with_reducible apply tagW); first | refine qw1 ?_ | refine qw2 ?_ | refine qw3 ?_ | refine qw4 ?_ | refine qw5 ?_ | refine qw6 (fun hb => ?_) (fun hb => ?_) | refine qw7 ?_ | refine qw8 ?_ | refine qw9 ?_ | refine qw0 ?_) | refine thenQ_n ?_ | refine thenQ_e ?_ | refine thenQ_r ?_ | refine blockQ_n ?_ | refine blockQ_r ?_ | refine blockQ_hit ?_ | refine qb4 ?_ | refine qe ?_ | refine loopQ_e ?_ | refine loopQ_r ?_
        all_goals clear E
        refine loopQ_n (j + 1) (by omega) (by omega) (by have E := hAl2; exact qs)
      | none =>
        have hz := dirFull_none hd
        generalize dirFull c l k j x = r at *
        obtain ⟨r1, r2, r3⟩ := r
        simp only at hz
        subst hz
        simp only [tri] at hC46
        rw [show (((pass1 c l k f.ins j ++ firstP c l k j x).length : Nat) : Int) = ((pass1 c l k f.ins j).length : Int) + 1 by simp [firstP, hd]] at eA
        generalize atOf c l k f.ins (j + 1) = A at *
        have e1 := take_all A A.length (Nat.le_refl _)
        rw [hAl] at e1
        have e2 := ints_app1 A (((pass1 c l k f.ins j).length : Int) + 1)
        rw [← eA] at e2
        have E := And.intro @hj1 (And.intro (inss_get hx) (And.intro (ints_get hg) (And.intro @hAl (And.intro @e1 (And.intro @e2 (@hAl2))))))
        repeat' first | refine R_nil ?_ | ((with_reducible apply tagG); first | refine qg1 ?_ | refine qg2 ?_ | refine qg3 ?_ | refine qg4 ?_ | refine qg5 ?_ | refine qg6 (fun hb => ?_) (fun hb => ?_)) | ((with_reducible apply tagK); first | ((with_reducible apply tagD); first | refine qd5 (hC46) ?_) | ((with_reducible apply tagR); first | refine qr5 (hC46) ?_)) | ((with_reducible apply tagS); first | ((with_reducible apply tagD); first | refine qd1 ?_ | refine qd3 ?_) | ((with_reducible apply tagR); first | refine qr1 ?_ | refine qr3 ?_)) | ((with_reducible apply tagN); first | ((with_reducible apply tagD); first | refine qd2 ?_ | refine qd4 ?_) | ((with_reducible apply tagR); first | refine qr2 ?_ | refine qr4 ?_)) | ((with_reducible apply tagW); first | refine qw1 ?_ | refine qw2 ?_ | refine qw3 ?_ | refine qw4 ?_ | refine qw5 ?_ | refine qw6 (fun hb => ?_) (fun hb => ?_) | refine qw7 ?_ | refine qw8 ?_ | refine qw9 ?_ | refine qw0 ?_) | refine thenQ_n ?_ | refine thenQ_e ?_ | refine thenQ_r ?_ | refine blockQ_n ?_ | refine blockQ_r ?_ | refine blockQ_hit ?_ | refine qb4 ?_ | refine qe ?_ | refine loopQ_e ?_ | refine loopQ_r ?_
        all_goals clear E
        refine loopQ_n (j + 1) (by omega) (by omega) (by have E := hAl2; exact qs)
    have hj0 : ¬ (j:Int) < f.ins.length := by omega
    have ej : j = f.ins.length := by omega
    subst ej
    obtain ⟨hq1, hq2⟩ := anyD_len c l k f.ins f.ins.length (Nat.le_refl _)
    have hpl := pass1_len c l k f.ins f.ins.length
    have hg := atOf_get c l k f.ins (show f.ins.length < f.ins.length + 1 by omega)
    have hAl := atOf_len c l k f.ins (f.ins.length + 1)
    have hAs := atOf_succ c l k f.ins f.ins.length
    have hA0 := atOf_len c l k f.ins f.ins.length
    have hAt : ∀ pc, wi pc f.ins.length = true → toA f (atOf c l k f.ins (f.ins.length + 1)) pc = toA f (atOf c l k f.ins f.ins.length) pc := fun pc h => by rw [hAs]; exact toA_app hin hA0 h
    have hAz : ∀ pc, wi pc f.ins.length = true → (atOf c l k f.ins (f.ins.length + 1))[(toE f pc).toNat]? = some (toA f (atOf c l k f.ins (f.ins.length + 1)) pc) := fun pc h => by
      rw [hAt pc h, hAs]
      have h2 := toA_get hin hA0 h
      rw [List.getElem?_append_left (List.getElem?_eq_some_iff.1 h2.2).1]; exact h2.2
    have hPm : ∀ y, y ∈ pass1 c l k f.ins f.ins.length → shortG f (atOf c l k f.ins (f.ins.length + 1)) y = shortG f (atOf c l k f.ins f.ins.length) y := by
      intro y hy
      rcases mem_pass1 hy with h | ⟨tn, i, rfl, hi⟩ | h
      · simp [shortG, h]
      · rw [shortG_call, shortG_call]
      · rw [shortG_I, shortG_I]; exact shortI_congr hAt (hfg.tgt h)
    have hFF : fastOf c l k f = ⟨f.name, f.params, f.holds, f.regs, if anyD c l k f.ins f.ins.length || (pass1 c l k f.ins f.ins.length).any (movedG f) then (pass1 c l k f.ins f.ins.length).map (shortG f (atOf c l k f.ins (f.ins.length + 1))) else []⟩ := by
      rw [List.map_congr_left hPm]; rfl
    rw [hFF]
    clear hAt hPm hAs hA0 hFF
    generalize atOf c l k f.ins (f.ins.length + 1) = A at *
    have eA := take_all A A.length (Nat.le_refl _)
    rw [hAl] at eA
    have E := And.intro @hj0 (And.intro @hq2 (And.intro (ints_get hg) (@hAl)))
    repeat' first | refine R_nil ?_ | ((with_reducible apply tagG); first | refine qg1 ?_ | refine qg2 ?_ | refine qg3 ?_ | refine qg4 ?_ | refine qg5 ?_ | refine qg6 (fun hb => ?_) (fun hb => ?_)) | ((with_reducible apply tagS); first | ((with_reducible apply tagD); first | refine qd1 ?_ | refine qd3 ?_) | ((with_reducible apply tagR); first | refine qr1 ?_ | refine qr3 ?_)) | ((with_reducible apply tagN); first | ((with_reducible apply tagD); first | refine qd2 ?_ | refine qd4 ?_) | ((with_reducible apply tagR); first | refine qr2 ?_ | refine qr4 ?_)) | ((with_reducible apply tagW); first | refine qw1 ?_ | refine qw2 ?_ | refine qw3 ?_ | refine qw4 ?_ | refine qw5 ?_ | refine qw6 (fun hb => ?_) (fun hb => ?_) | refine qw7 ?_ | refine qw8 ?_ | refine qw9 ?_ | refine qw0 ?_) | refine thenQ_n ?_ | refine thenQ_e ?_ | refine thenQ_r ?_ | refine blockQ_n ?_ | refine blockQ_r ?_ | refine blockQ_hit ?_ | refine qb4 ?_ | refine qe ?_ | refine loopQ_e ?_ | refine loopQ_r ?_
    all_goals clear E
    refine W_ghost (G_adoptB 16 4 500 5 rfl rfl rfl (.inr (by decide))) ?_
    have E := eA
    refine W_ghost (G_d [30]) ?_
    clear E
    have hp0 : pass1 c l k f.ins 0 = [] := rfl
    refine W_loopQ (fun j : Nat => [(80, dInt j), (79, dInt f.ins.length), (78, .d (.sl (inss f.ins))), (1, dInt k), (2, .d (.sl (hintsD l))), (3, .ptr 3 0 0), (6, .ptr 6 0 0), (7, .ptr 7 0 0), (14, .ptr 14 0 0), (8, .ptr 8 0 0), (16, .ptr 16 0 0), (15, .fn 47 [(7, 0, 0), (14, 0, 0), (8, 0, 0)])])
      (fun j => [(500, some (.row 5 (inss ((pass1 c l k f.ins j).map (shortG f A))))), (16, some (.box [dStr f.name, dInt f.params, dInt f.holds, dInt f.regs, .ref 500 0 ((pass1 c l k f.ins j).map (shortG f A)).length])), (14, some (.box [dBool (anyD c l k f.ins f.ins.length || (pass1 c l k f.ins j).any (movedG f))])), (8, some (.box [.d (.sl (ints A))])), (7, some (.box f.cells)), (3, some (.box c.cells)), (6, some (.box [dStr ByteArray.empty, dInt 0, dInt 0, dInt 0, .d (.sl [])]))])
      (fun j => f.ins.length - j) (fun j => j ≤ f.ins.length) 0 (by omega) (by simp only [hp0, List.map_nil, List.any_nil, Bool.or_false, inss_nil, List.length_nil]; exact qs) fun j hj => ?_
    by_cases hjl : j < f.ins.length
    · obtain ⟨x, hx⟩ := get_ex hjl
      have hj1 : (j:Int) < f.ins.length := by omega
      have hxm := List.mem_of_getElem? hx
      have hxs := hc.args f hfm x hxm
      have htg := hfg.tgt hxm
      have hC46 := C46 c l f x k j hc hl h0 hf hx
      have hpl2 := pass1_len c l k f.ins j
      have hQl : ((pass1 c l k f.ins j).map (shortG f A)).length ≤ 8000 := by rw [List.length_map]; omega
      have eP : (pass1 c l k f.ins (j + 1)).map (shortG f A) = (pass1 c l k f.ins j).map (shortG f A) ++ (firstP c l k j x).map (shortG f A) := by rw [pass1_succ _ _ _ _ _ hx, List.map_append]
      have eM : (anyD c l k f.ins f.ins.length || (pass1 c l k f.ins (j + 1)).any (movedG f)) = ((anyD c l k f.ins f.ins.length || (pass1 c l k f.ins j).any (movedG f)) || (firstP c l k j x).any (movedG f)) := by rw [pass1_succ _ _ _ _ _ hx, List.any_append, Bool.or_assoc]
      generalize (pass1 c l k f.ins j).map (shortG f A) = Q at *
      generalize (anyD c l k f.ins f.ins.length || (pass1 c l k f.ins j).any (movedG f)) = b0 at *
      have eq1 := inss_take Q
      cases hd : direct c l k j x with
      | some tn =>
        rw [dirFull_some hd] at hC46
        simp only [tri] at hC46
        obtain ⟨_, ha0⟩ := hfg.trait hxm (direct_7 hd)
        obtain ⟨a0, hxa⟩ := get_ex ha0
        have hal1 : (0:Int) < x.args.length := by omega
        have t0 : Int.toNat 0 = 0 := rfl
        simp only [firstP, hd, List.map_cons, List.map_nil, shortG_guard, shortG_call, List.any_cons, movedG_guard, movedG_call, List.any_nil, Bool.or_false] at eP eM
        have e5 := inss_appG Q x j tn a0 hxa
        have E := And.intro @hj1 (And.intro (inss_get hx) (And.intro (ints_get hxa) (And.intro @hal1 (And.intro @t0 (And.intro @eq1 (@e5))))))
        repeat' first | refine R_nil ?_ | ((with_reducible apply tagG); first | refine qg1 ?_ | refine qg2 ?_ | refine qg3 ?_ | refine qg4 ?_ | refine qg5 ?_ | refine qg6 (fun hb => ?_) (fun hb => ?_)) | ((with_reducible apply tagK); first | ((with_reducible apply tagD); first | refine qd5 (hC46) ?_) | ((with_reducible apply tagR); first | refine qr5 (hC46) ?_)) | ((with_reducible apply tagS); first | ((with_reducible apply tagD); first | refine qd1 ?_ | refine qd3 ?_) | ((with_reducible apply tagR); first | refine qr1 ?_ | refine qr3 ?_)) | ((with_reducible apply tagN); first | ((with_reducible apply tagD); first | refine qd2 ?_ | refine qd4 ?_) | ((with_reducible apply tagR); first | refine qr2 ?_ | refine qr4 ?_)) | ((with_reducible apply tagW); first | refine qw1 ?_ | refine qw2 ?_ | refine qw3 ?_ | refine qw4 ?_ | refine qw5 ?_ | refine qw6 (fun hb => ?_) (fun hb => ?_) | refine qw7 ?_ | refine qw8 ?_ | refine qw9 ?_ | refine qw0 ?_) | refine thenQ_n ?_ | refine thenQ_e ?_ | refine thenQ_r ?_ | refine blockQ_n ?_ | refine blockQ_r ?_ | refine blockQ_hit ?_ | refine qb4 ?_ | refine qe ?_ | refine loopQ_e ?_ | refine loopQ_r ?_
        all_goals clear E
        refine loopQ_n (j + 1) (by omega) (by omega) (by rw [eP, eM]; exact qs)
      | none =>
        have hz := dirFull_none hd
        generalize dirFull c l k j x = r at *
        obtain ⟨r1, r2, r3⟩ := r
        simp only at hz
        subst hz
        simp only [tri] at hC46
        simp only [firstP, hd, List.map_cons, List.map_nil, shortG_I, List.any_cons, List.any_nil, Bool.or_false, movedG_B] at eP eM
        by_cases h3 : x.op = 3
        · have e3 : decide (x.op = 3) = true := by simp [h3]
          rw [show shortI f A x = ⟨x.op, toA f A x.a, x.b, x.c, x.args⟩ by simp [shortI, h3]] at eP
          rw [show shortB f x = moved f x.a by simp [shortB, h3]] at eM
          have e7 := inss_app3 Q x.op (toA f A x.a) x.b x.c x.args
          have E := And.intro @hj1 (And.intro (inss_get hx) (And.intro @e3 (And.intro @eq1 (@e7))))
          repeat' first | refine R_nil ?_ | ((with_reducible apply tagG); first | refine qg1 ?_ | refine qg2 ?_ | refine qg3 ?_ | refine qg4 ?_ | refine qg5 ?_ | refine qg6 (fun hb => ?_) (fun hb => ?_)) | ((with_reducible apply tagK); first | ((with_reducible apply tagD); first | refine qd5 (hC46) ?_ | refine qd7 [7, 14, 8] (C47 x.a f b0 A _ hin hr (htg.jump h3) (hAz _ (htg.jump h3))) ?_ | refine qd6 [7, 14, 8] (C47 x.a f b0 A _ hin hr (htg.jump h3) (hAz _ (htg.jump h3))) ?_) | ((with_reducible apply tagR); first | refine qr5 (hC46) ?_ | refine qr7 [7, 14, 8] (C47 x.a f b0 A _ hin hr (htg.jump h3) (hAz _ (htg.jump h3))) ?_ | refine qr6 [7, 14, 8] (C47 x.a f b0 A _ hin hr (htg.jump h3) (hAz _ (htg.jump h3))) ?_)) | ((with_reducible apply tagS); first | ((with_reducible apply tagD); first | refine qd1 ?_ | refine qd3 ?_) | ((with_reducible apply tagR); first | refine qr1 ?_ | refine qr3 ?_)) | ((with_reducible apply tagN); first | ((with_reducible apply tagD); first | refine qd2 ?_ | refine qd4 ?_) | ((with_reducible apply tagR); first | refine qr2 ?_ | refine qr4 ?_)) | ((with_reducible apply tagW); first | refine qw1 ?_ | refine qw2 ?_ | refine qw3 ?_ | refine qw4 ?_ | refine qw5 ?_ | refine qw6 (fun hb => ?_) (fun hb => ?_) | refine qw7 ?_ | refine qw8 ?_ | refine qw9 ?_ | refine qw0 ?_) | refine thenQ_n ?_ | refine thenQ_e ?_ | refine thenQ_r ?_ | refine blockQ_n ?_ | refine blockQ_r ?_ | refine blockQ_hit ?_ | refine qb4 ?_ | refine qe ?_ | refine loopQ_e ?_ | refine loopQ_r ?_
          all_goals clear E
          refine loopQ_n (j + 1) (by omega) (by omega) (by rw [eP, eM]; exact qs)
        have n3 : decide (x.op = 3) = false := by simp [h3]
        by_cases h4 : x.op = 4
        · have e4 : decide (x.op = 4) = true := by simp [h4]
          rw [show shortI f A x = ⟨x.op, x.a, toA f A x.b, x.c, x.args⟩ by simp [shortI, h4]] at eP
          rw [show shortB f x = moved f x.b by simp [shortB, h4]] at eM
          have e7 := inss_app3 Q x.op x.a (toA f A x.b) x.c x.args
          have E := And.intro @hj1 (And.intro (inss_get hx) (And.intro @n3 (And.intro @e4 (And.intro @eq1 (@e7)))))
          repeat' first | refine R_nil ?_ | ((with_reducible apply tagG); first | refine qg1 ?_ | refine qg2 ?_ | refine qg3 ?_ | refine qg4 ?_ | refine qg5 ?_ | refine qg6 (fun hb => ?_) (fun hb => ?_)) | ((with_reducible apply tagK); first | ((with_reducible apply tagD); first | refine qd5 (hC46) ?_ | refine qd7 [7, 14, 8] (C47 x.b f b0 A _ hin hr (htg.ifnot h4) (hAz _ (htg.ifnot h4))) ?_ | refine qd6 [7, 14, 8] (C47 x.b f b0 A _ hin hr (htg.ifnot h4) (hAz _ (htg.ifnot h4))) ?_) | ((with_reducible apply tagR); first | refine qr5 (hC46) ?_ | refine qr7 [7, 14, 8] (C47 x.b f b0 A _ hin hr (htg.ifnot h4) (hAz _ (htg.ifnot h4))) ?_ | refine qr6 [7, 14, 8] (C47 x.b f b0 A _ hin hr (htg.ifnot h4) (hAz _ (htg.ifnot h4))) ?_)) | ((with_reducible apply tagS); first | ((with_reducible apply tagD); first | refine qd1 ?_ | refine qd3 ?_) | ((with_reducible apply tagR); first | refine qr1 ?_ | refine qr3 ?_)) | ((with_reducible apply tagN); first | ((with_reducible apply tagD); first | refine qd2 ?_ | refine qd4 ?_) | ((with_reducible apply tagR); first | refine qr2 ?_ | refine qr4 ?_)) | ((with_reducible apply tagW); first | refine qw1 ?_ | refine qw2 ?_ | refine qw3 ?_ | refine qw4 ?_ | refine qw5 ?_ | refine qw6 (fun hb => ?_) (fun hb => ?_) | refine qw7 ?_ | refine qw8 ?_ | refine qw9 ?_ | refine qw0 ?_) | refine thenQ_n ?_ | refine thenQ_e ?_ | refine thenQ_r ?_ | refine blockQ_n ?_ | refine blockQ_r ?_ | refine blockQ_hit ?_ | refine qb4 ?_ | refine qe ?_ | refine loopQ_e ?_ | refine loopQ_r ?_
          all_goals clear E
          refine loopQ_n (j + 1) (by omega) (by omega) (by rw [eP, eM]; exact qs)
        have n4 : decide (x.op = 4) = false := by simp [h4]
        have hs' : Sm x.args := by show x.args.length ≤ _; omega
        have hal := armsOf_len x
        by_cases h11 : x.op = 11
        · have e11 : decide (x.op = 11) = true := by simp [h11]
          have e16 : decide (x.op = 16) = false := by simp [h11]
          obtain ⟨P0, hP0⟩ : ∃ P0 : List Int, P0 = [] := ⟨_, rfl⟩
          rw [show shortI f A x = ⟨x.op, x.a, x.b, x.c, P0 ++ spread ((armsOf x).map (armTo f A))⟩ by simp [shortI, h11, hP0]] at eP
          rw [show shortB f x = (armsOf x).any fun a => moved f a.pc by simp [shortB, h11]] at eM
          have E := And.intro @hj1 (And.intro (inss_get hx) (And.intro @n3 (And.intro @n4 (And.intro @e11 (@e16)))))
          repeat' first | refine R_nil ?_ | ((with_reducible apply tagG); first | refine qg1 ?_ | refine qg2 ?_ | refine qg3 ?_ | refine qg4 ?_ | refine qg5 ?_ | refine qg6 (fun hb => ?_) (fun hb => ?_)) | ((with_reducible apply tagK); first | ((with_reducible apply tagD); first | refine qd5 (hC46) ?_ | refine qd5 (C48 x hs') ?_) | ((with_reducible apply tagR); first | refine qr5 (hC46) ?_ | refine qr5 (C48 x hs') ?_)) | ((with_reducible apply tagS); first | ((with_reducible apply tagD); first | refine qd1 ?_ | refine qd3 ?_) | ((with_reducible apply tagR); first | refine qr1 ?_ | refine qr3 ?_)) | ((with_reducible apply tagN); first | ((with_reducible apply tagD); first | refine qd2 ?_ | refine qd4 ?_) | ((with_reducible apply tagR); first | refine qr2 ?_ | refine qr4 ?_)) | ((with_reducible apply tagW); first | refine qw1 ?_ | refine qw2 ?_ | refine qw3 ?_ | refine qw4 ?_ | refine qw5 ?_ | refine qw6 (fun hb => ?_) (fun hb => ?_) | refine qw7 ?_ | refine qw8 ?_ | refine qw9 ?_ | refine qw0 ?_) | refine thenQ_n ?_ | refine thenQ_e ?_ | refine thenQ_r ?_ | refine blockQ_n ?_ | refine blockQ_r ?_ | refine blockQ_hit ?_ | refine qb4 ?_ | refine qe ?_ | refine loopQ_e ?_ | refine loopQ_r ?_
          all_goals clear E
          refine W_ghost (G_adopt 22 600 1 rfl rfl (.inr (by decide))) ?_
          refine W_loopQ (fun i : Nat => [(151, dInt i), (150, dInt (armsOf x).length), (149, .d (.sl (armsD (armsOf x)))), (22, .ref 600 0 (P0 ++ spread (((armsOf x).take i).map (armTo f A))).length), (15, .fn 47 [(7, 0, 0), (14, 0, 0), (8, 0, 0)]), (18, .ptr 18 0 0), (80, dInt j), (79, dInt f.ins.length), (78, .d (.sl (inss f.ins))), (1, dInt k), (2, .d (.sl (hintsD l))), (3, .ptr 3 0 0), (6, .ptr 6 0 0), (7, .ptr 7 0 0), (14, .ptr 14 0 0), (8, .ptr 8 0 0), (16, .ptr 16 0 0)])
            (fun i => [(600, some (.row 1 (ints (P0 ++ spread (((armsOf x).take i).map (armTo f A)))))), (18, some (.box x.cells)), (14, some (.box [dBool (b0 || ((armsOf x).take i).any fun a => moved f a.pc)])), (500, some (.row 5 (inss Q))), (16, some (.box [dStr f.name, dInt f.params, dInt f.holds, dInt f.regs, .ref 500 0 Q.length])), (8, some (.box [.d (.sl (ints A))])), (7, some (.box f.cells)), (3, some (.box c.cells)), (6, some (.box [dStr ByteArray.empty, dInt 0, dInt 0, dInt 0, .d (.sl [])]))])
            (fun i => (armsOf x).length - i) (fun i => i ≤ (armsOf x).length) 0 (by omega) (by simp only [hP0, List.take_zero, List.map_nil, spread, List.flatMap_nil, List.append_nil, List.any_nil, Bool.or_false, ints_nil, ints_one]; exact qs) fun i hi => ?_
          by_cases hil : i < (armsOf x).length
          · obtain ⟨a, ha⟩ := get_ex hil
            have hi1 : (i:Int) < (armsOf x).length := by omega
            have hC47 := fun b => C47 a.pc f b A _ hin hr (htg.arm a (List.mem_of_getElem? ha)) (hAz _ (htg.arm a (List.mem_of_getElem? ha)))
            have hB : (P0 ++ spread (((armsOf x).take i).map (armTo f A))).length ≤ 3145730 := by
              have := spread_le f A x i
              rw [List.length_append, hP0]; simp only [List.length_cons, List.length_nil]; omega
            have hrg : a.regs.length ≤ 3145728 := by
              have h1 := spread_le f A x (i + 1)
              rw [spread_succ f A ha, List.length_append] at h1; omega
            have eS : P0 ++ spread (((armsOf x).take (i + 1)).map (armTo f A)) = (P0 ++ spread (((armsOf x).take i).map (armTo f A)) ++ [toA f A a.pc, (a.regs.length : Int)]) ++ a.regs := by
              rw [spread_succ f A ha]; simp only [List.append_assoc]
            have eB : (((armsOf x).take (i + 1)).any fun a => moved f a.pc) = ((((armsOf x).take i).any fun a => moved f a.pc) || moved f a.pc) := by
              rw [List.take_add_one, ha, List.any_append]; simp
            generalize (((armsOf x).take i).any fun a => moved f a.pc) = b9 at *
            generalize P0 ++ spread (((armsOf x).take i).map (armTo f A)) = B at *
            have d1 := take_all B B.length (Nat.le_refl _)
            have d2 := ints_app2 B (toA f A a.pc) a.regs.length
            have hB2 : (B ++ [toA f A a.pc, (a.regs.length : Int)]).length ≤ 4000000 := by rw [List.length_append]; simp only [List.length_cons, List.length_nil]; omega
            generalize B ++ [toA f A a.pc, (a.regs.length : Int)] = B2 at *
            have d3 := take_all B2 B2.length (Nat.le_refl _)
            have d4 := ints_app B2 a.regs
            have hB4 : (B2 ++ a.regs).length ≤ 8000000 := by rw [List.length_append]; omega
            have E := And.intro @hi1 (And.intro (armsD_get ha) (And.intro @d1 (And.intro @d2 (And.intro @d3 (@d4)))))
            repeat' first | refine R_nil ?_ | ((with_reducible apply tagG); first | refine qg1 ?_ | refine qg2 ?_ | refine qg3 ?_ | refine qg4 ?_ | refine qg5 ?_ | refine qg6 (fun hb => ?_) (fun hb => ?_)) | ((with_reducible apply tagK); first | ((with_reducible apply tagD); first | refine qd7 [7, 14, 8] (hC47 _) ?_ | refine qd6 [7, 14, 8] (hC47 _) ?_) | ((with_reducible apply tagR); first | refine qr7 [7, 14, 8] (hC47 _) ?_ | refine qr6 [7, 14, 8] (hC47 _) ?_)) | ((with_reducible apply tagS); first | ((with_reducible apply tagD); first | refine qd1 ?_ | refine qd3 ?_) | ((with_reducible apply tagR); first | refine qr1 ?_ | refine qr3 ?_)) | ((with_reducible apply tagN); first | ((with_reducible apply tagD); first | refine qd2 ?_ | refine qd4 ?_) | ((with_reducible apply tagR); first | refine qr2 ?_ | refine qr4 ?_)) | ((with_reducible apply tagW); first | refine qw1 ?_ | refine qw2 ?_ | refine qw3 ?_ | refine qw4 ?_ | refine qw5 ?_ | refine qw6 (fun hb => ?_) (fun hb => ?_) | refine qw7 ?_ | refine qw8 ?_ | refine qw9 ?_ | refine qw0 ?_) | refine thenQ_n ?_ | refine thenQ_e ?_ | refine thenQ_r ?_ | refine blockQ_n ?_ | refine blockQ_r ?_ | refine blockQ_hit ?_ | refine qb4 ?_ | refine qe ?_ | refine loopQ_e ?_ | refine loopQ_r ?_
            all_goals clear E
            refine loopQ_n (i + 1) (by omega) (by omega) (by rw [eS, eB, ← Bool.or_assoc]; exact qs)
          have hk9 : ¬ (i : Int) < (armsOf x).length := by omega
          have ek9 : i = (armsOf x).length := by omega
          subst ek9
          rw [List.take_length]
          generalize P0 ++ spread ((armsOf x).map (armTo f A)) = W at *
          have eW := take_all W W.length (Nat.le_refl _)
          have e7 := inss_app3 Q x.op x.a x.b x.c W
          have E := And.intro @hk9 (And.intro @eW (And.intro @eq1 (@e7)))
          repeat' first | refine R_nil ?_ | ((with_reducible apply tagG); first | refine qg1 ?_ | refine qg2 ?_ | refine qg3 ?_ | refine qg4 ?_ | refine qg5 ?_ | refine qg6 (fun hb => ?_) (fun hb => ?_)) | ((with_reducible apply tagS); first | ((with_reducible apply tagD); first | refine qd1 ?_ | refine qd3 ?_) | ((with_reducible apply tagR); first | refine qr1 ?_ | refine qr3 ?_)) | ((with_reducible apply tagN); first | ((with_reducible apply tagD); first | refine qd2 ?_ | refine qd4 ?_) | ((with_reducible apply tagR); first | refine qr2 ?_ | refine qr4 ?_)) | ((with_reducible apply tagW); first | refine qw1 ?_ | refine qw2 ?_ | refine qw3 ?_ | refine qw4 ?_ | refine qw5 ?_ | refine qw6 (fun hb => ?_) (fun hb => ?_) | refine qw7 ?_ | refine qw8 ?_ | refine qw9 ?_ | refine qw0 ?_) | refine thenQ_n ?_ | refine thenQ_e ?_ | refine thenQ_r ?_ | refine blockQ_n ?_ | refine blockQ_r ?_ | refine blockQ_hit ?_ | refine qb4 ?_ | refine qe ?_ | refine loopQ_e ?_ | refine loopQ_r ?_
          all_goals clear E
          refine loopQ_n (j + 1) (by omega) (by omega) (by rw [eP, eM]; exact qs)
        have n11 : decide (x.op = 11) = false := by simp [h11]
        by_cases h16 : x.op = 16
        · have e16 : decide (x.op = 16) = true := by simp [h16]
          obtain ⟨y, r, hya, hyw⟩ := htg.late h16
          have hxa : x.args[0]? = some y := by rw [hya]; rfl
          have hal1 : (1:Int) ≤ x.args.length := by rw [hya]; simp; omega
          have d0 : (ints x.args).take 1 = [[DI y]] := by rw [hya]; rfl
          have d9 : ([[DI y]] : List (List D)).getD 0 [] = [DI y] := rfl
          by_cases hy0 : 0 ≤ y
          · obtain ⟨P0, hP0⟩ : ∃ P0 : List Int, P0 = [toA f A y] := ⟨_, rfl⟩
            rw [show shortI f A x = ⟨x.op, x.a, x.b, x.c, P0 ++ spread ((armsOf x).map (armTo f A))⟩ by simp [shortI, h16, hya, hP0, lateTo, hy0]] at eP
            rw [show (b0 || shortB f x) = ((b0 || moved f y) || (armsOf x).any fun a => moved f a.pc) by (simp [shortB, h16, hya, hy0]; cases b0 <;> cases moved f y <;> simp)] at eM
            have E := And.intro @hj1 (And.intro (inss_get hx) (And.intro @n3 (And.intro @n4 (And.intro @n11 (And.intro @e16 (And.intro @hal1 (And.intro @d0 (And.intro @d9 (@hy0)))))))))
            repeat' first | refine R_nil ?_ | ((with_reducible apply tagG); first | refine qg1 ?_ | refine qg2 ?_ | refine qg3 ?_ | refine qg4 ?_ | refine qg5 ?_ | refine qg6 (fun hb => ?_) (fun hb => ?_)) | ((with_reducible apply tagK); first | ((with_reducible apply tagD); first | refine qd5 (hC46) ?_ | refine qd7 [7, 14, 8] (C47 y f b0 A _ hin hr (hyw hy0) (hAz _ (hyw hy0))) ?_ | refine qd6 [7, 14, 8] (C47 y f b0 A _ hin hr (hyw hy0) (hAz _ (hyw hy0))) ?_ | refine qd5 (C48 x hs') ?_) | ((with_reducible apply tagR); first | refine qr5 (hC46) ?_ | refine qr7 [7, 14, 8] (C47 y f b0 A _ hin hr (hyw hy0) (hAz _ (hyw hy0))) ?_ | refine qr6 [7, 14, 8] (C47 y f b0 A _ hin hr (hyw hy0) (hAz _ (hyw hy0))) ?_ | refine qr5 (C48 x hs') ?_)) | ((with_reducible apply tagS); first | ((with_reducible apply tagD); first | refine qd1 ?_ | refine qd3 ?_) | ((with_reducible apply tagR); first | refine qr1 ?_ | refine qr3 ?_)) | ((with_reducible apply tagN); first | ((with_reducible apply tagD); first | refine qd2 ?_ | refine qd4 ?_) | ((with_reducible apply tagR); first | refine qr2 ?_ | refine qr4 ?_)) | ((with_reducible apply tagW); first | refine qw1 ?_ | refine qw2 ?_ | refine qw3 ?_ | refine qw4 ?_ | refine qw5 ?_ | refine qw6 (fun hb => ?_) (fun hb => ?_) | refine qw7 ?_ | refine qw8 ?_ | refine qw9 ?_ | refine qw0 ?_) | refine thenQ_n ?_ | refine thenQ_e ?_ | refine thenQ_r ?_ | refine blockQ_n ?_ | refine blockQ_r ?_ | refine blockQ_hit ?_ | refine qb4 ?_ | refine qe ?_ | refine loopQ_e ?_ | refine loopQ_r ?_
            all_goals clear E
            refine W_loopQ (fun i : Nat => [(151, dInt i), (150, dInt (armsOf x).length), (149, .d (.sl (armsD (armsOf x)))), (22, .ref 147 0 (P0 ++ spread (((armsOf x).take i).map (armTo f A))).length), (15, .fn 47 [(7, 0, 0), (14, 0, 0), (8, 0, 0)]), (18, .ptr 18 0 0), (80, dInt j), (79, dInt f.ins.length), (78, .d (.sl (inss f.ins))), (1, dInt k), (2, .d (.sl (hintsD l))), (3, .ptr 3 0 0), (6, .ptr 6 0 0), (7, .ptr 7 0 0), (14, .ptr 14 0 0), (8, .ptr 8 0 0), (16, .ptr 16 0 0)])
              (fun i => [(147, some (.row 1 (ints (P0 ++ spread (((armsOf x).take i).map (armTo f A)))))), (18, some (.box x.cells)), (14, some (.box [dBool ((or b0 (moved f y)) || ((armsOf x).take i).any fun a => moved f a.pc)])), (500, some (.row 5 (inss Q))), (16, some (.box [dStr f.name, dInt f.params, dInt f.holds, dInt f.regs, .ref 500 0 Q.length])), (8, some (.box [.d (.sl (ints A))])), (7, some (.box f.cells)), (3, some (.box c.cells)), (6, some (.box [dStr ByteArray.empty, dInt 0, dInt 0, dInt 0, .d (.sl [])]))])
              (fun i => (armsOf x).length - i) (fun i => i ≤ (armsOf x).length) 0 (by omega) (by simp only [hP0, List.take_zero, List.map_nil, spread, List.flatMap_nil, List.append_nil, List.any_nil, Bool.or_false, ints_nil, ints_one]; exact qs) fun i hi => ?_
            by_cases hil : i < (armsOf x).length
            · obtain ⟨a, ha⟩ := get_ex hil
              have hi1 : (i:Int) < (armsOf x).length := by omega
              have hC47 := fun b => C47 a.pc f b A _ hin hr (htg.arm a (List.mem_of_getElem? ha)) (hAz _ (htg.arm a (List.mem_of_getElem? ha)))
              have hB : (P0 ++ spread (((armsOf x).take i).map (armTo f A))).length ≤ 3145730 := by
                have := spread_le f A x i
                rw [List.length_append, hP0]; simp only [List.length_cons, List.length_nil]; omega
              have hrg : a.regs.length ≤ 3145728 := by
                have h1 := spread_le f A x (i + 1)
                rw [spread_succ f A ha, List.length_append] at h1; omega
              have eS : P0 ++ spread (((armsOf x).take (i + 1)).map (armTo f A)) = (P0 ++ spread (((armsOf x).take i).map (armTo f A)) ++ [toA f A a.pc, (a.regs.length : Int)]) ++ a.regs := by
                rw [spread_succ f A ha]; simp only [List.append_assoc]
              have eB : (((armsOf x).take (i + 1)).any fun a => moved f a.pc) = ((((armsOf x).take i).any fun a => moved f a.pc) || moved f a.pc) := by
                rw [List.take_add_one, ha, List.any_append]; simp
              generalize (((armsOf x).take i).any fun a => moved f a.pc) = b9 at *
              generalize P0 ++ spread (((armsOf x).take i).map (armTo f A)) = B at *
              have d1 := take_all B B.length (Nat.le_refl _)
              have d2 := ints_app2 B (toA f A a.pc) a.regs.length
              have hB2 : (B ++ [toA f A a.pc, (a.regs.length : Int)]).length ≤ 4000000 := by rw [List.length_append]; simp only [List.length_cons, List.length_nil]; omega
              generalize B ++ [toA f A a.pc, (a.regs.length : Int)] = B2 at *
              have d3 := take_all B2 B2.length (Nat.le_refl _)
              have d4 := ints_app B2 a.regs
              have hB4 : (B2 ++ a.regs).length ≤ 8000000 := by rw [List.length_append]; omega
              have E := And.intro @hi1 (And.intro (armsD_get ha) (And.intro @d1 (And.intro @d2 (And.intro @d3 (@d4)))))
              repeat' first | refine R_nil ?_ | ((with_reducible apply tagG); first | refine qg1 ?_ | refine qg2 ?_ | refine qg3 ?_ | refine qg4 ?_ | refine qg5 ?_ | refine qg6 (fun hb => ?_) (fun hb => ?_)) | ((with_reducible apply tagK); first | ((with_reducible apply tagD); first | refine qd7 [7, 14, 8] (hC47 _) ?_ | refine qd6 [7, 14, 8] (hC47 _) ?_) | ((with_reducible apply tagR); first | refine qr7 [7, 14, 8] (hC47 _) ?_ | refine qr6 [7, 14, 8] (hC47 _) ?_)) | ((with_reducible apply tagS); first | ((with_reducible apply tagD); first | refine qd1 ?_ | refine qd3 ?_) | ((with_reducible apply tagR); first | refine qr1 ?_ | refine qr3 ?_)) | ((with_reducible apply tagN); first | ((with_reducible apply tagD); first | refine qd2 ?_ | refine qd4 ?_) | ((with_reducible apply tagR); first | refine qr2 ?_ | refine qr4 ?_)) | ((with_reducible apply tagW); first | refine qw1 ?_ | refine qw2 ?_ | refine qw3 ?_ | refine qw4 ?_ | refine qw5 ?_ | refine qw6 (fun hb => ?_) (fun hb => ?_) | refine qw7 ?_ | refine qw8 ?_ | refine qw9 ?_ | refine qw0 ?_) | refine thenQ_n ?_ | refine thenQ_e ?_ | refine thenQ_r ?_ | refine blockQ_n ?_ | refine blockQ_r ?_ | refine blockQ_hit ?_ | refine qb4 ?_ | refine qe ?_ | refine loopQ_e ?_ | refine loopQ_r ?_
              all_goals clear E
              refine loopQ_n (i + 1) (by omega) (by omega) (by rw [eS, eB, ← Bool.or_assoc]; exact qs)
            have hk9 : ¬ (i : Int) < (armsOf x).length := by omega
            have ek9 : i = (armsOf x).length := by omega
            subst ek9
            rw [List.take_length]
            generalize P0 ++ spread ((armsOf x).map (armTo f A)) = W at *
            have eW := take_all W W.length (Nat.le_refl _)
            have e7 := inss_app3 Q x.op x.a x.b x.c W
            have E := And.intro @hk9 (And.intro @eW (And.intro @eq1 (@e7)))
            repeat' first | refine R_nil ?_ | ((with_reducible apply tagG); first | refine qg1 ?_ | refine qg2 ?_ | refine qg3 ?_ | refine qg4 ?_ | refine qg5 ?_ | refine qg6 (fun hb => ?_) (fun hb => ?_)) | ((with_reducible apply tagS); first | ((with_reducible apply tagD); first | refine qd1 ?_ | refine qd3 ?_) | ((with_reducible apply tagR); first | refine qr1 ?_ | refine qr3 ?_)) | ((with_reducible apply tagN); first | ((with_reducible apply tagD); first | refine qd2 ?_ | refine qd4 ?_) | ((with_reducible apply tagR); first | refine qr2 ?_ | refine qr4 ?_)) | ((with_reducible apply tagW); first | refine qw1 ?_ | refine qw2 ?_ | refine qw3 ?_ | refine qw4 ?_ | refine qw5 ?_ | refine qw6 (fun hb => ?_) (fun hb => ?_) | refine qw7 ?_ | refine qw8 ?_ | refine qw9 ?_ | refine qw0 ?_) | refine thenQ_n ?_ | refine thenQ_e ?_ | refine thenQ_r ?_ | refine blockQ_n ?_ | refine blockQ_r ?_ | refine blockQ_hit ?_ | refine qb4 ?_ | refine qe ?_ | refine loopQ_e ?_ | refine loopQ_r ?_
            all_goals clear E
            refine loopQ_n (j + 1) (by omega) (by omega) (by rw [eP, eM]; exact qs)
          · obtain ⟨P0, hP0⟩ : ∃ P0 : List Int, P0 = [y] := ⟨_, rfl⟩
            rw [show shortI f A x = ⟨x.op, x.a, x.b, x.c, P0 ++ spread ((armsOf x).map (armTo f A))⟩ by simp [shortI, h16, hya, hP0, lateTo, hy0]] at eP
            rw [show (b0 || shortB f x) = (b0 || (armsOf x).any fun a => moved f a.pc) by simp [shortB, h16, hya, hy0]] at eM
            have E := And.intro @hj1 (And.intro (inss_get hx) (And.intro @n3 (And.intro @n4 (And.intro @n11 (And.intro @e16 (And.intro @hal1 (And.intro @d0 (And.intro @d9 (@hy0)))))))))
            repeat' first | refine R_nil ?_ | ((with_reducible apply tagG); first | refine qg1 ?_ | refine qg2 ?_ | refine qg3 ?_ | refine qg4 ?_ | refine qg5 ?_ | refine qg6 (fun hb => ?_) (fun hb => ?_)) | ((with_reducible apply tagK); first | ((with_reducible apply tagD); first | refine qd5 (hC46) ?_ | refine qd5 (C48 x hs') ?_) | ((with_reducible apply tagR); first | refine qr5 (hC46) ?_ | refine qr5 (C48 x hs') ?_)) | ((with_reducible apply tagS); first | ((with_reducible apply tagD); first | refine qd1 ?_ | refine qd3 ?_) | ((with_reducible apply tagR); first | refine qr1 ?_ | refine qr3 ?_)) | ((with_reducible apply tagN); first | ((with_reducible apply tagD); first | refine qd2 ?_ | refine qd4 ?_) | ((with_reducible apply tagR); first | refine qr2 ?_ | refine qr4 ?_)) | ((with_reducible apply tagW); first | refine qw1 ?_ | refine qw2 ?_ | refine qw3 ?_ | refine qw4 ?_ | refine qw5 ?_ | refine qw6 (fun hb => ?_) (fun hb => ?_) | refine qw7 ?_ | refine qw8 ?_ | refine qw9 ?_ | refine qw0 ?_) | refine thenQ_n ?_ | refine thenQ_e ?_ | refine thenQ_r ?_ | refine blockQ_n ?_ | refine blockQ_r ?_ | refine blockQ_hit ?_ | refine qb4 ?_ | refine qe ?_ | refine loopQ_e ?_ | refine loopQ_r ?_
            all_goals clear E
            refine W_loopQ (fun i : Nat => [(151, dInt i), (150, dInt (armsOf x).length), (149, .d (.sl (armsD (armsOf x)))), (22, lateA y (P0 ++ spread (((armsOf x).take i).map (armTo f A))).length i), (15, .fn 47 [(7, 0, 0), (14, 0, 0), (8, 0, 0)]), (18, .ptr 18 0 0), (80, dInt j), (79, dInt f.ins.length), (78, .d (.sl (inss f.ins))), (1, dInt k), (2, .d (.sl (hintsD l))), (3, .ptr 3 0 0), (6, .ptr 6 0 0), (7, .ptr 7 0 0), (14, .ptr 14 0 0), (8, .ptr 8 0 0), (16, .ptr 16 0 0)])
              (fun i => lateM (P0 ++ spread (((armsOf x).take i).map (armTo f A))) i ++ [(18, some (.box x.cells)), (14, some (.box [dBool (b0 || ((armsOf x).take i).any fun a => moved f a.pc)])), (500, some (.row 5 (inss Q))), (16, some (.box [dStr f.name, dInt f.params, dInt f.holds, dInt f.regs, .ref 500 0 Q.length])), (8, some (.box [.d (.sl (ints A))])), (7, some (.box f.cells)), (3, some (.box c.cells)), (6, some (.box [dStr ByteArray.empty, dInt 0, dInt 0, dInt 0, .d (.sl [])]))])
              (fun i => (armsOf x).length - i) (fun i => i ≤ (armsOf x).length) 0 (by omega) (by simp only [lateA, lateM, List.take_zero, List.any_nil, Bool.or_false, List.nil_append]; exact qs) fun i hi => ?_
            by_cases hil : i < (armsOf x).length
            · obtain ⟨a, ha⟩ := get_ex hil
              have hi1 : (i:Int) < (armsOf x).length := by omega
              have hC47 := fun b => C47 a.pc f b A _ hin hr (htg.arm a (List.mem_of_getElem? ha)) (hAz _ (htg.arm a (List.mem_of_getElem? ha)))
              have hB : (P0 ++ spread (((armsOf x).take i).map (armTo f A))).length ≤ 3145730 := by
                have := spread_le f A x i
                rw [List.length_append, hP0]; simp only [List.length_cons, List.length_nil]; omega
              have hrg : a.regs.length ≤ 3145728 := by
                have h1 := spread_le f A x (i + 1)
                rw [spread_succ f A ha, List.length_append] at h1; omega
              have eS : P0 ++ spread (((armsOf x).take (i + 1)).map (armTo f A)) = (P0 ++ spread (((armsOf x).take i).map (armTo f A)) ++ [toA f A a.pc, (a.regs.length : Int)]) ++ a.regs := by
                rw [spread_succ f A ha]; simp only [List.append_assoc]
              have eB : (((armsOf x).take (i + 1)).any fun a => moved f a.pc) = ((((armsOf x).take i).any fun a => moved f a.pc) || moved f a.pc) := by
                rw [List.take_add_one, ha, List.any_append]; simp
              generalize (((armsOf x).take i).any fun a => moved f a.pc) = b9 at *
              cases i with
              | zero =>
                rw [show P0 ++ spread (((armsOf x).take 0).map (armTo f A)) = [y] by rw [hP0]; rfl] at eS
                simp only [lateA, lateM, List.nil_append]
                have d4 := ints_app [y, toA f A a.pc, (a.regs.length : Int)] a.regs
                simp only [ints, List.map_cons, List.map_nil] at d4
                have hi2 : (0:Int) < (armsOf x).length := by omega
                have E := And.intro @hi2 ((armsD_get ha))
                repeat' first | refine R_nil ?_ | ((with_reducible apply tagG); first | refine qg1 ?_ | refine qg2 ?_ | refine qg3 ?_ | refine qg4 ?_ | refine qg5 ?_ | refine qg6 (fun hb => ?_) (fun hb => ?_)) | ((with_reducible apply tagK); first | ((with_reducible apply tagD); first | refine qd7 [7, 14, 8] (hC47 _) ?_ | refine qd6 [7, 14, 8] (hC47 _) ?_) | ((with_reducible apply tagR); first | refine qr7 [7, 14, 8] (hC47 _) ?_ | refine qr6 [7, 14, 8] (hC47 _) ?_)) | ((with_reducible apply tagS); first | ((with_reducible apply tagD); first | refine qd1 ?_ | refine qd3 ?_) | ((with_reducible apply tagR); first | refine qr1 ?_ | refine qr3 ?_)) | ((with_reducible apply tagN); first | ((with_reducible apply tagD); first | refine qd2 ?_ | refine qd4 ?_) | ((with_reducible apply tagR); first | refine qr2 ?_ | refine qr4 ?_)) | ((with_reducible apply tagW); first | refine qw1 ?_ | refine qw2 ?_ | refine qw3 ?_ | refine qw4 ?_ | refine qw5 ?_ | refine qw6 (fun hb => ?_) (fun hb => ?_) | refine qw7 ?_ | refine qw8 ?_ | refine qw9 ?_ | refine qw0 ?_) | refine thenQ_n ?_ | refine thenQ_e ?_ | refine thenQ_r ?_ | refine blockQ_n ?_ | refine blockQ_r ?_ | refine blockQ_hit ?_ | refine qb4 ?_ | refine qe ?_ | refine loopQ_e ?_ | refine loopQ_r ?_
                all_goals clear E
                refine loopQ_n (0 + 1) (by omega) (by omega) (by simp only [lateA, lateM]; rw [eS, eB, ← Bool.or_assoc]; exact qs)
              | succ i =>
                simp only [lateA, lateM, List.cons_append, List.nil_append]
                generalize P0 ++ spread (((armsOf x).take (i + 1)).map (armTo f A)) = B at *
                have d1 := take_all B B.length (Nat.le_refl _)
                have d2 := ints_app2 B (toA f A a.pc) a.regs.length
                have hB2 : (B ++ [toA f A a.pc, (a.regs.length : Int)]).length ≤ 4000000 := by rw [List.length_append]; simp only [List.length_cons, List.length_nil]; omega
                generalize B ++ [toA f A a.pc, (a.regs.length : Int)] = B2 at *
                have d3 := take_all B2 B2.length (Nat.le_refl _)
                have d4 := ints_app B2 a.regs
                have hB4 : (B2 ++ a.regs).length ≤ 8000000 := by rw [List.length_append]; omega
                have E := And.intro @hi1 (And.intro (armsD_get ha) (And.intro @d1 (And.intro @d2 (And.intro @d3 (@d4)))))
                repeat' first | refine R_nil ?_ | ((with_reducible apply tagG); first | refine qg1 ?_ | refine qg2 ?_ | refine qg3 ?_ | refine qg4 ?_ | refine qg5 ?_ | refine qg6 (fun hb => ?_) (fun hb => ?_)) | ((with_reducible apply tagK); first | ((with_reducible apply tagD); first | refine qd7 [7, 14, 8] (hC47 _) ?_ | refine qd6 [7, 14, 8] (hC47 _) ?_) | ((with_reducible apply tagR); first | refine qr7 [7, 14, 8] (hC47 _) ?_ | refine qr6 [7, 14, 8] (hC47 _) ?_)) | ((with_reducible apply tagS); first | ((with_reducible apply tagD); first | refine qd1 ?_ | refine qd3 ?_) | ((with_reducible apply tagR); first | refine qr1 ?_ | refine qr3 ?_)) | ((with_reducible apply tagN); first | ((with_reducible apply tagD); first | refine qd2 ?_ | refine qd4 ?_) | ((with_reducible apply tagR); first | refine qr2 ?_ | refine qr4 ?_)) | ((with_reducible apply tagW); first | refine qw1 ?_ | refine qw2 ?_ | refine qw3 ?_ | refine qw4 ?_ | refine qw5 ?_ | refine qw6 (fun hb => ?_) (fun hb => ?_) | refine qw7 ?_ | refine qw8 ?_ | refine qw9 ?_ | refine qw0 ?_) | refine thenQ_n ?_ | refine thenQ_e ?_ | refine thenQ_r ?_ | refine blockQ_n ?_ | refine blockQ_r ?_ | refine blockQ_hit ?_ | refine qb4 ?_ | refine qe ?_ | refine loopQ_e ?_ | refine loopQ_r ?_
                all_goals clear E
                refine loopQ_n (i + 1 + 1) (by omega) (by omega) (by simp only [lateA, lateM, List.cons_append, List.nil_append]; rw [eS, eB, ← Bool.or_assoc]; exact qs)
            · have hk9 : ¬ (i : Int) < (armsOf x).length := by omega
              have ek9 : i = (armsOf x).length := by omega
              rw [ek9, List.take_length]
              rw [ek9] at hk9
              cases hl9 : (armsOf x).length with
              | zero =>
                have hW : P0 ++ spread ((armsOf x).map (armTo f A)) = [y] := by rw [List.eq_nil_of_length_eq_zero hl9, hP0]; rfl
                rw [hW] at eP ⊢
                simp only [lateA, lateM, List.nil_append]
                have e7 := inss_app3 Q x.op x.a x.b x.c [y]
                rw [ints_one] at e7
                rw [hl9] at hk9
                have E := And.intro @hk9 (And.intro @eq1 (@e7))
                repeat' first | refine R_nil ?_ | ((with_reducible apply tagG); first | refine qg1 ?_ | refine qg2 ?_ | refine qg3 ?_ | refine qg4 ?_ | refine qg5 ?_ | refine qg6 (fun hb => ?_) (fun hb => ?_)) | ((with_reducible apply tagS); first | ((with_reducible apply tagD); first | refine qd1 ?_ | refine qd3 ?_) | ((with_reducible apply tagR); first | refine qr1 ?_ | refine qr3 ?_)) | ((with_reducible apply tagN); first | ((with_reducible apply tagD); first | refine qd2 ?_ | refine qd4 ?_) | ((with_reducible apply tagR); first | refine qr2 ?_ | refine qr4 ?_)) | ((with_reducible apply tagW); first | refine qw1 ?_ | refine qw2 ?_ | refine qw3 ?_ | refine qw4 ?_ | refine qw5 ?_ | refine qw6 (fun hb => ?_) (fun hb => ?_) | refine qw7 ?_ | refine qw8 ?_ | refine qw9 ?_ | refine qw0 ?_) | refine thenQ_n ?_ | refine thenQ_e ?_ | refine thenQ_r ?_ | refine blockQ_n ?_ | refine blockQ_r ?_ | refine blockQ_hit ?_ | refine qb4 ?_ | refine qe ?_ | refine loopQ_e ?_ | refine loopQ_r ?_
                all_goals clear E
                refine loopQ_n (j + 1) (by omega) (by omega) (by rw [eP, eM]; exact qs)
              | succ n9 =>
                simp only [lateA, lateM, List.cons_append, List.nil_append]
                rw [hl9] at hk9
                generalize P0 ++ spread ((armsOf x).map (armTo f A)) = W at *
                have eW := take_all W W.length (Nat.le_refl _)
                have e7 := inss_app3 Q x.op x.a x.b x.c W
                have E := And.intro @hk9 (And.intro @eW (And.intro @eq1 (@e7)))
                repeat' first | refine R_nil ?_ | ((with_reducible apply tagG); first | refine qg1 ?_ | refine qg2 ?_ | refine qg3 ?_ | refine qg4 ?_ | refine qg5 ?_ | refine qg6 (fun hb => ?_) (fun hb => ?_)) | ((with_reducible apply tagS); first | ((with_reducible apply tagD); first | refine qd1 ?_ | refine qd3 ?_) | ((with_reducible apply tagR); first | refine qr1 ?_ | refine qr3 ?_)) | ((with_reducible apply tagN); first | ((with_reducible apply tagD); first | refine qd2 ?_ | refine qd4 ?_) | ((with_reducible apply tagR); first | refine qr2 ?_ | refine qr4 ?_)) | ((with_reducible apply tagW); first | refine qw1 ?_ | refine qw2 ?_ | refine qw3 ?_ | refine qw4 ?_ | refine qw5 ?_ | refine qw6 (fun hb => ?_) (fun hb => ?_) | refine qw7 ?_ | refine qw8 ?_ | refine qw9 ?_ | refine qw0 ?_) | refine thenQ_n ?_ | refine thenQ_e ?_ | refine thenQ_r ?_ | refine blockQ_n ?_ | refine blockQ_r ?_ | refine blockQ_hit ?_ | refine qb4 ?_ | refine qe ?_ | refine loopQ_e ?_ | refine loopQ_r ?_
                all_goals clear E
                refine loopQ_n (j + 1) (by omega) (by omega) (by rw [eP, eM]; exact qs)
        have n16 : decide (x.op = 16) = false := by simp [h16]
        rw [show shortI f A x = ⟨x.op, x.a, x.b, x.c, x.args⟩ by simp [shortI, h3, h4, h11, h16]] at eP
        rw [show (b0 || shortB f x) = b0 by simp [shortB, h3, h4, h11, h16]] at eM
        have e7 := inss_app3 Q x.op x.a x.b x.c x.args
        have E := And.intro @hj1 (And.intro (inss_get hx) (And.intro @n3 (And.intro @n4 (And.intro @n11 (And.intro @n16 (And.intro @eq1 (@e7)))))))
        repeat' first | refine R_nil ?_ | ((with_reducible apply tagG); first | refine qg1 ?_ | refine qg2 ?_ | refine qg3 ?_ | refine qg4 ?_ | refine qg5 ?_ | refine qg6 (fun hb => ?_) (fun hb => ?_)) | ((with_reducible apply tagK); first | ((with_reducible apply tagD); first | refine qd5 (hC46) ?_) | ((with_reducible apply tagR); first | refine qr5 (hC46) ?_)) | ((with_reducible apply tagS); first | ((with_reducible apply tagD); first | refine qd1 ?_ | refine qd3 ?_) | ((with_reducible apply tagR); first | refine qr1 ?_ | refine qr3 ?_)) | ((with_reducible apply tagN); first | ((with_reducible apply tagD); first | refine qd2 ?_ | refine qd4 ?_) | ((with_reducible apply tagR); first | refine qr2 ?_ | refine qr4 ?_)) | ((with_reducible apply tagW); first | refine qw1 ?_ | refine qw2 ?_ | refine qw3 ?_ | refine qw4 ?_ | refine qw5 ?_ | refine qw6 (fun hb => ?_) (fun hb => ?_) | refine qw7 ?_ | refine qw8 ?_ | refine qw9 ?_ | refine qw0 ?_) | refine thenQ_n ?_ | refine thenQ_e ?_ | refine thenQ_r ?_ | refine blockQ_n ?_ | refine blockQ_r ?_ | refine blockQ_hit ?_ | refine qb4 ?_ | refine qe ?_ | refine loopQ_e ?_ | refine loopQ_r ?_
        all_goals clear E
        refine loopQ_n (j + 1) (by omega) (by omega) (by rw [eP, eM]; exact qs)
    · have hj0 : ¬ (j:Int) < f.ins.length := by omega
      have ej : j = f.ins.length := by omega
      subst ej
      generalize (pass1 c l k f.ins f.ins.length).map (shortG f A) = Q at *
      have eq1 := inss_take Q
      cases hb : (anyD c l k f.ins f.ins.length || (pass1 c l k f.ins f.ins.length).any (movedG f)) with
      | true =>
        have E := @hj0
        repeat' first | refine R_nil ?_ | ((with_reducible apply tagG); first | refine qg1 ?_ | refine qg2 ?_ | refine qg3 ?_ | refine qg4 ?_ | refine qg5 ?_ | refine qg6 (fun hb => ?_) (fun hb => ?_)) | ((with_reducible apply tagS); first | ((with_reducible apply tagD); first | refine qd1 ?_ | refine qd3 ?_) | ((with_reducible apply tagR); first | refine qr1 ?_ | refine qr3 ?_)) | ((with_reducible apply tagN); first | ((with_reducible apply tagD); first | refine qd2 ?_ | refine qd4 ?_) | ((with_reducible apply tagR); first | refine qr2 ?_ | refine qr4 ?_)) | ((with_reducible apply tagW); first | refine qw1 ?_ | refine qw2 ?_ | refine qw3 ?_ | refine qw4 ?_ | refine qw5 ?_ | refine qw6 (fun hb => ?_) (fun hb => ?_) | refine qw7 ?_ | refine qw8 ?_ | refine qw9 ?_ | refine qw0 ?_) | refine thenQ_n ?_ | refine thenQ_e ?_ | refine thenQ_r ?_ | refine blockQ_n ?_ | refine blockQ_r ?_ | refine blockQ_hit ?_ | refine qb4 ?_ | refine qe ?_ | refine loopQ_e ?_ | refine loopQ_r ?_
        all_goals clear E
        have E := eq1
        exact finQ_g (G_d [500]) (ret_a rfl)
      | false =>
        have E := @hj0
        repeat' first | refine R_nil ?_ | ((with_reducible apply tagG); first | refine qg1 ?_ | refine qg2 ?_ | refine qg3 ?_ | refine qg4 ?_ | refine qg5 ?_ | refine qg6 (fun hb => ?_) (fun hb => ?_)) | ((with_reducible apply tagS); first | ((with_reducible apply tagD); first | refine qd1 ?_ | refine qd3 ?_) | ((with_reducible apply tagR); first | refine qr1 ?_ | refine qr3 ?_)) | ((with_reducible apply tagN); first | ((with_reducible apply tagD); first | refine qd2 ?_ | refine qd4 ?_) | ((with_reducible apply tagR); first | refine qr2 ?_ | refine qr4 ?_)) | ((with_reducible apply tagW); first | refine qw1 ?_ | refine qw2 ?_ | refine qw3 ?_ | refine qw4 ?_ | refine qw5 ?_ | refine qw6 (fun hb => ?_) (fun hb => ?_) | refine qw7 ?_ | refine qw8 ?_ | refine qw9 ?_ | refine qw0 ?_) | refine thenQ_n ?_ | refine thenQ_e ?_ | refine thenQ_r ?_ | refine blockQ_n ?_ | refine blockQ_r ?_ | refine blockQ_hit ?_ | refine qb4 ?_ | refine qe ?_ | refine loopQ_e ?_ | refine loopQ_r ?_
        all_goals clear E
        exact finQ_g (G_d []) (ret_a rfl)
end Go.Pw
