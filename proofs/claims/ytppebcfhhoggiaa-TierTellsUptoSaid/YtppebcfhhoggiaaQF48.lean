/- TierTells. -/
import Derived.Test.YtppebcfhhoggiaaQF14
import Derived.Test.YtppebcfhhoggiaaQF17
import Derived.Test.YtppebcfhhoggiaaQF26
import Derived.Test.YtppebcfhhoggiaaQF27
import Derived.Test.YtppebcfhhoggiaaQF31
import Derived.Test.YtppebcfhhoggiaaQF34
import Derived.Test.YtppebcfhhoggiaaQF41
import Derived.Test.YtppebcfhhoggiaaQF45
import Derived.Test.YtppebcfhhoggiaaQF46
import Derived.Test.YtppebcfhhoggiaaQF47
import Derived.Test.YtppebcfhhoggiaaQF51
set_option linter.unusedVariables false
set_option linter.unusedSimpArgs false
namespace Go.Pw
open Go Go.Proofs
attribute [local irreducible] runL W endD thenQ blockQ loopQ
set_option maxRecDepth 8000
set_option maxHeartbeats 16000000
theorem sameHints_refl : ∀ l : List Hint, ((l.zip l).all fun p => sameHint p.1 p.2) = true
  | [] => rfl
  | x :: l => by rw [List.zip_cons_cons, List.all_cons, sameHints_refl l, (sameHint_iff x x).2 rfl]; rfl
theorem sameInss_refl : ∀ l : List Ins, ((l.zip l).all fun p => sameIns p.1 p.2) = true
  | [] => rfl
  | x :: l => by rw [List.zip_cons_cons, List.all_cons, sameInss_refl l]; simp [sameIns]
theorem sameFn_refl (f : Fn) : sameFnB f f = true := by simp [sameFnB, sameInss_refl]
theorem guess_small {c : Cod} (h0 : codErr c = 0) : ∀ k, k ≤ c.funs.length → (guessTo c k).length ≤ k * 4000
  | 0, _ => by simp [guessTo]
  | k + 1, h => by
    have ih := guess_small h0 k (by omega)
    obtain ⟨f, hf⟩ := get_ex (show k < c.funs.length by omega)
    have hfl := (fnGood_of ((good_of h0).fun0 f (List.mem_of_getElem? hf))).len
    have hg := guessFn_len c k f.ins f.ins.length
    rw [guessTo_succ c k hf, List.length_append, Nat.add_mul]; omega
theorem mem_pass1' {c : Cod} {l : List Hint} {fn : Int} {ins : List Ins} {k : Nat} {y : Ins} (h : y ∈ pass1 c l fn ins k) : y.args = [] ∨ (∃ tn i, y = callI i tn ∧ i ∈ ins) ∨ y ∈ ins := by
  unfold pass1 at h
  obtain ⟨j, _, hj⟩ := List.mem_flatMap.1 h
  unfold firstAt at hj
  split at hj
  · rename_i i hi
    unfold firstP at hj
    split at hj
    · simp only [List.mem_cons, List.not_mem_nil, or_false] at hj
      rcases hj with rfl | rfl
      · exact .inl rfl
      · exact .inr (.inl ⟨_, i, rfl, List.mem_of_getElem? hi⟩)
    · simp only [List.mem_cons, List.not_mem_nil, or_false] at hj
      subst hj
      exact .inr (.inr (List.mem_of_getElem? hi))
  · simp at hj
theorem fast_sm {c : Cod} {l : List Hint} {fn : Int} {f : Fn} (hl : f.ins.length ≤ 4000) (hs : ∀ i ∈ f.ins, i.args.length ≤ 1048576) : Sm (fastOf c l fn f).ins ∧ ∀ x ∈ (fastOf c l fn f).ins, Sm x.args := by
  have hp := pass1_len c l fn f.ins f.ins.length
  have he : (fastOf c l fn f).ins = if anyD c l fn f.ins f.ins.length || (pass1 c l fn f.ins f.ins.length).any (movedG f) then (pass1 c l fn f.ins f.ins.length).map (shortG f (atOf c l fn f.ins f.ins.length)) else [] := rfl
  rw [he]
  split
  · refine ⟨by show _ ≤ _; rw [List.length_map]; omega, fun x hx => ?_⟩
    obtain ⟨y, hy, rfl⟩ := List.mem_map.1 hx
    show _ ≤ _
    rcases mem_pass1' hy with h | ⟨tn, i, rfl, hi⟩ | h
    · have hA : (shortG f (atOf c l fn f.ins f.ins.length) y).args.length ≤ 1 + 3 * y.args.length := by
        have h2 := spread_le f (atOf c l fn f.ins f.ins.length) y (armsOf y).length
        rw [List.take_length] at h2
        rw [shortG_I]
        unfold shortI
        split
        · dsimp only; omega
        · split
          · dsimp only; omega
          · split
            · dsimp only; omega
            · split
              · dsimp only; rw [List.length_append, List.length_map, List.length_take]; omega
              · omega
      rw [h] at hA
      simp only [List.length_nil] at hA; omega
    · rw [shortG_call]; have := hs i hi; simp only [callI]; omega
    · have h1 := hs y h
      rw [shortG_I]
      unfold shortI
      have h2 := spread_le f (atOf c l fn f.ins f.ins.length) y (armsOf y).length
      rw [List.take_length] at h2
      split
      · dsimp only; omega
      · split
        · dsimp only; omega
        · split
          · dsimp only; omega
          · split
            · dsimp only; rw [List.length_append, List.length_map, List.length_take]; omega
            · omega
  · exact ⟨by simp, by simp⟩
theorem allOf_len (c : Cod) (l : List Hint) : (allOf c l).length = c.funs.length := by simp [allOf]
theorem allOf_get {c : Cod} {l : List Hint} {k : Nat} {f : Fn} (hf : c.funs[k]? = some f) : (allOf c l)[k]? = some (fastOf c l k f) := by
  have hk := (List.getElem?_eq_some_iff.1 hf).1
  unfold allOf
  rw [List.getElem?_map, List.getElem?_range hk]
  simp [fastAt, hf]
theorem all2_full {w : World} {St : Nat → Prop} {M : Mm} {bl : Lc} {es : List (List D)} {bs : List AV} : ∀ {xs : List AV} {vs : List Value}, All2 (RelV w St M bl) (xs ++ .full es :: bs) vs → All2 (RelV w St M bl) (xs ++ .d (.sl es) :: bs) vs
  | [], _, .cons h t => .cons (show RelV w St M bl (.d (.sl es)) _ from (show RelC w St M bl (.full es) _ from h).1) t
  | _ :: _, _, .cons h t => .cons h (all2_full t)
theorem C_full {P : Program} {f : Nat} {xs bs : List AV} {es : List (List D)} {Ms Ms' OW : List Ob} {r : AV} (h : C P f (xs ++ .d (.sl es) :: bs) Ms r Ms' OW) : C P f (xs ++ .full es :: bs) Ms r Ms' OW :=
  ⟨h.fn, h.kind, h.clean, h.rows, fun w St bl cargs hm ha => h.calls w St bl cargs hm (all2_full ha)⟩
theorem C3 (c : Cod) (l : List Tri) (fn : Int) (n : Nat) (hc : c.Big) (hp : c.named.Pk n) (hl : Sm l) : C Try.prog 3 [c.av, .d (.sl (trisD l)), dInt fn] [] (dBool true) [] [] := by
  have hC4 := C4 c hc.sz.ok hc.hdr hc.fns hc.pats
  refine C_intro T_ok (rs := [.tmp 6]) Try.func3 rfl rfl rfl (Nat.le_of_ble_eq_true rfl) (Nat.le_of_ble_eq_true rfl) rfl ⟨rfl, rfl⟩ rfl fun cx hn => ?_
  have hn : cx.n = 203 := hn
  have Y := And.intro T3 (And.intro T4 (And.intro T9 (And.intro T22 (And.intro T23 (And.intro T24 (And.intro T25 (And.intro T26 (And.intro T27 (And.intro T28 (And.intro T30 (And.intro T31 (And.intro T36 (And.intro T38 (And.intro T40 (And.intro T46 (And.intro T48 (And.intro T51 (And.intro T54 (And.intro T60 (And.intro T61 (And.intro T63 (And.intro T67 (And.intro T75 (And.intro T77 (And.intro T88 (T90))))))))))))))))))))))))))
  simp only [enumA, enumO, Nat.reduceAdd]
  cases hsm : smallB c with
  | false =>
    rw [hsm] at hC4
    have E := @trisD_len
    repeat' first | refine R_nil ?_ | ((with_reducible apply tagG); first | refine qg1 ?_ | refine qg2 ?_ | refine qg3 ?_ | refine qg4 ?_ | refine qg5 ?_ | refine qg6 (fun hb => ?_) (fun hb => ?_)) | ((with_reducible apply tagK); first | ((with_reducible apply tagD); first | refine qd5 (hC4) ?_) | ((with_reducible apply tagR); first | refine qr5 (hC4) ?_)) | ((with_reducible apply tagS); first | ((with_reducible apply tagD); first | refine qd1 ?_ | refine qd3 ?_) | ((with_reducible apply tagR); first | refine qr1 ?_ | refine qr3 ?_)) | ((with_reducible apply tagN); first | ((with_reducible apply tagD); first | refine qd2 ?_ | refine qd4 ?_) | ((with_reducible apply tagR); first | refine qr2 ?_ | refine qr4 ?_)) | ((with_reducible apply tagW); first | refine qw1 ?_ | refine qw2 ?_ | refine qw3 ?_ | refine qw4 ?_ | refine qw5 ?_ | refine qw6 (fun hb => ?_) (fun hb => ?_) | refine qw7 ?_ | refine qw8 ?_ | refine qw9 ?_ | refine qw0 ?_) | refine thenQ_n ?_ | refine thenQ_e ?_ | refine thenQ_r ?_ | refine blockQ_n ?_ | refine blockQ_r ?_ | refine blockQ_hit ?_ | refine qb4 ?_ | refine qe ?_ | refine loopQ_e ?_ | refine loopQ_r ?_
    all_goals clear E
    exact ret_d rfl rfl
  | true =>
  rw [hsm] at hC4
  by_cases hl40 : (40:Int) < l.length
  · have E := And.intro @trisD_len (@hl40)
    repeat' first | refine R_nil ?_ | ((with_reducible apply tagG); first | refine qg1 ?_ | refine qg2 ?_ | refine qg3 ?_ | refine qg4 ?_ | refine qg5 ?_ | refine qg6 (fun hb => ?_) (fun hb => ?_)) | ((with_reducible apply tagK); first | ((with_reducible apply tagD); first | refine qd5 (hC4) ?_) | ((with_reducible apply tagR); first | refine qr5 (hC4) ?_)) | ((with_reducible apply tagS); first | ((with_reducible apply tagD); first | refine qd1 ?_ | refine qd3 ?_) | ((with_reducible apply tagR); first | refine qr1 ?_ | refine qr3 ?_)) | ((with_reducible apply tagN); first | ((with_reducible apply tagD); first | refine qd2 ?_ | refine qd4 ?_) | ((with_reducible apply tagR); first | refine qr2 ?_ | refine qr4 ?_)) | ((with_reducible apply tagW); first | refine qw1 ?_ | refine qw2 ?_ | refine qw3 ?_ | refine qw4 ?_ | refine qw5 ?_ | refine qw6 (fun hb => ?_) (fun hb => ?_) | refine qw7 ?_ | refine qw8 ?_ | refine qw9 ?_ | refine qw0 ?_) | refine thenQ_n ?_ | refine thenQ_e ?_ | refine thenQ_r ?_ | refine blockQ_n ?_ | refine blockQ_r ?_ | refine blockQ_hit ?_ | refine qb4 ?_ | refine qe ?_ | refine loopQ_e ?_ | refine loopQ_r ?_
    all_goals clear E
    exact ret_d rfl rfl
  have hC5 := C5 c hc.sz.ok hc.txt
  have hC7 := C7 c hc.sz.ok hc.txt
  have hC8 := C8 c.named n hp
  have hC6 := C6 c.named.texts c.named.texts hc.txN hc.txN
  have hC9 := C9 c hc.sz.ok
  generalize hN : c.named = cn at *
  generalize packS cn = pk at *
  have E := And.intro @trisD_len (@hl40)
  repeat' first | refine R_nil ?_ | ((with_reducible apply tagG); first | refine qg1 ?_ | refine qg2 ?_ | refine qg3 ?_ | refine qg4 ?_ | refine qg5 ?_ | refine qg6 (fun hb => ?_) (fun hb => ?_)) | ((with_reducible apply tagK); first | ((with_reducible apply tagD); first | refine qd5 (hC4) ?_ | refine qd5 (hC5) ?_ | refine qd5 (hC7) ?_ | refine qd5 (hC6) ?_ | refine qd5 (hC8) ?_ | refine qd5 (hC9) ?_) | ((with_reducible apply tagR); first | refine qr5 (hC4) ?_ | refine qr5 (hC5) ?_ | refine qr5 (hC7) ?_ | refine qr5 (hC6) ?_ | refine qr5 (hC8) ?_ | refine qr5 (hC9) ?_)) | ((with_reducible apply tagS); first | ((with_reducible apply tagD); first | refine qd1 ?_ | refine qd3 ?_) | ((with_reducible apply tagR); first | refine qr1 ?_ | refine qr3 ?_)) | ((with_reducible apply tagN); first | ((with_reducible apply tagD); first | refine qd2 ?_ | refine qd4 ?_) | ((with_reducible apply tagR); first | refine qr2 ?_ | refine qr4 ?_)) | ((with_reducible apply tagW); first | refine qw1 ?_ | refine qw2 ?_ | refine qw3 ?_ | refine qw4 ?_ | refine qw5 ?_ | refine qw7 ?_ | refine qw8 ?_ | refine qw9 ?_ | refine qw0 ?_) | refine thenQ_n ?_ | refine thenQ_e ?_ | refine thenQ_r ?_ | refine blockQ_n ?_ | refine blockQ_r ?_ | refine blockQ_hit ?_ | refine qb4 ?_ | refine qe ?_ | refine loopQ_e ?_ | refine loopQ_r ?_
  all_goals clear E
  by_cases h0 : codErr c = 0
  · have e1 : decide (codErr c = 0) = true := by simp [h0]
    refine W_sub [(49, .d (.lit (.bool false))), (3, .ptr 3 0 0), (1, .d (.sl (trisD l))), (2, dInt fn)] [(3, some (.box c.cells))] (by have E := e1; exact qs) ?_
    have hgd := good_of h0
    have hgl := guess_small h0 c.funs.length (Nat.le_refl _)
    have hfl : c.funs.length ≤ 1000 := by
      have := hgd.large
      simp only [codLarge, Bool.or_eq_false_iff, decide_eq_false_iff_not] at this; omega
    have hgs : (guessOf c).length ≤ 16777216 := Nat.le_trans hgl (by omega)
    have hC13 := C13 c hc.sz
    have hC15 := C15 c hc.sz h0
    have hC14 := C14d (guessOf c) false hgs
    simp only [slA_f] at hC14
    have hC12 := C12 (guessOf c) (guessOf c) (by show _ ≤ _; omega) (by show _ ≤ _; omega)
    rw [sameHints_refl, decide_eq_true rfl] at hC12
    have hC16 := C16 c.funs hc.sz.ok.funs fun f hf => ⟨hc.sz.ok.ins f hf, (fnGood_of (hgd.fun0 f hf)).inside⟩
    have hC18 := C18 c l hc.sz h0 hl
    have hB : (l.map (believe (guessOf c))).length ≤ 40 := by rw [List.length_map]; omega
    generalize guessOf c = g at *
    generalize l.map (believe g) = B at *
    have hC14b := C14d B false (by omega)
    simp only [slA_f] at hC14b
    have hC11 := C11 c B hc.sz.ok (by show _ ≤ _; omega) h0 hc.sz.args
    have hal := allOf_len c B
    generalize hb16 : (c.funs.any fun f => roundF f.ins) = b16 at hC16
    have E := @h0
    repeat' first | refine R_nil ?_ | ((with_reducible apply tagG); first | refine qg1 ?_ | refine qg2 ?_ | refine qg3 ?_ | refine qg4 ?_ | refine qg5 ?_ | refine qg6 (fun hb => ?_) (fun hb => ?_)) | ((with_reducible apply tagK); first | ((with_reducible apply tagD); first | refine qd5 (hC13) ?_ | refine qd5 (hC15) ?_ | refine qd5 (hC14) ?_ | refine qd5 (hC12) ?_ | refine qd5 (hC16) ?_) | ((with_reducible apply tagR); first | refine qr5 (hC13) ?_ | refine qr5 (hC15) ?_ | refine qr5 (hC14) ?_ | refine qr5 (hC12) ?_ | refine qr5 (hC16) ?_)) | ((with_reducible apply tagS); first | ((with_reducible apply tagD); first | refine qd1 ?_ | refine qd3 ?_) | ((with_reducible apply tagR); first | refine qr1 ?_ | refine qr3 ?_)) | ((with_reducible apply tagN); first | ((with_reducible apply tagD); first | refine qd2 ?_ | refine qd4 ?_) | ((with_reducible apply tagR); first | refine qr2 ?_ | refine qr4 ?_)) | ((with_reducible apply tagW); first | refine qw1 ?_ | refine qw2 ?_ | refine qw3 ?_ | refine qw4 ?_ | refine qw5 ?_ | refine qw7 ?_ | refine qw8 ?_ | refine qw9 ?_ | refine qw0 ?_) | refine thenQ_n ?_ | refine thenQ_e ?_ | refine thenQ_r ?_ | refine blockQ_n ?_ | refine blockQ_r ?_ | refine blockQ_hit ?_ | refine qb4 ?_ | refine qe ?_ | refine loopQ_e ?_ | refine loopQ_r ?_
    all_goals clear E
    refine W_sub [(104, dBool b16), (3, .ptr 3 0 0), (1, .d (.sl (trisD l))), (2, dInt fn)] [(3, some (.box c.cells))] qs ?_
    cases b16 with
    | true =>
      have E := @h0
      repeat' first | refine R_nil ?_ | ((with_reducible apply tagG); first | refine qg1 ?_ | refine qg2 ?_ | refine qg3 ?_ | refine qg4 ?_ | refine qg5 ?_ | refine qg6 (fun hb => ?_) (fun hb => ?_)) | ((with_reducible apply tagS); first | ((with_reducible apply tagD); first | refine qd1 ?_ | refine qd3 ?_) | ((with_reducible apply tagR); first | refine qr1 ?_ | refine qr3 ?_)) | ((with_reducible apply tagN); first | ((with_reducible apply tagD); first | refine qd2 ?_ | refine qd4 ?_) | ((with_reducible apply tagR); first | refine qr2 ?_ | refine qr4 ?_)) | ((with_reducible apply tagW); first | refine qw1 ?_ | refine qw2 ?_ | refine qw3 ?_ | refine qw4 ?_ | refine qw5 ?_ | refine qw6 (fun hb => ?_) (fun hb => ?_) | refine qw7 ?_ | refine qw8 ?_ | refine qw9 ?_ | refine qw0 ?_) | refine thenQ_n ?_ | refine thenQ_e ?_ | refine thenQ_r ?_ | refine blockQ_n ?_ | refine blockQ_r ?_ | refine blockQ_hit ?_ | refine qb4 ?_ | refine qe ?_ | refine loopQ_e ?_ | refine loopQ_r ?_
      all_goals clear E
      exact ret_d rfl rfl
    | false =>
      have hr := hb16
      have E := @hal
      repeat' first | refine R_nil ?_ | ((with_reducible apply tagG); first | refine qg1 ?_ | refine qg2 ?_ | refine qg3 ?_ | refine qg4 ?_ | refine qg5 ?_ | refine qg6 (fun hb => ?_) (fun hb => ?_)) | ((with_reducible apply tagK); first | ((with_reducible apply tagD); first | refine qd5 (hC18) ?_ | refine qd5 (hC14b) ?_ | refine qd5 (hC11) ?_) | ((with_reducible apply tagR); first | refine qr5 (hC18) ?_ | refine qr5 (hC14b) ?_ | refine qr5 (hC11) ?_)) | ((with_reducible apply tagS); first | ((with_reducible apply tagD); first | refine qd1 ?_ | refine qd3 ?_) | ((with_reducible apply tagR); first | refine qr1 ?_ | refine qr3 ?_)) | ((with_reducible apply tagN); first | ((with_reducible apply tagD); first | refine qd2 ?_ | refine qd4 ?_) | ((with_reducible apply tagR); first | refine qr2 ?_ | refine qr4 ?_)) | ((with_reducible apply tagW); first | refine qw1 ?_ | refine qw2 ?_ | refine qw3 ?_ | refine qw4 ?_ | refine qw5 ?_ | refine qw6 (fun hb => ?_) (fun hb => ?_) | refine qw7 ?_ | refine qw8 ?_ | refine qw9 ?_ | refine qw0 ?_) | refine thenQ_n ?_ | refine thenQ_e ?_ | refine thenQ_r ?_ | refine blockQ_n ?_ | refine blockQ_r ?_ | refine blockQ_hit ?_ | refine qb4 ?_ | refine qe ?_ | refine loopQ_e ?_ | refine loopQ_r ?_
      all_goals clear E
      refine W_loopQ (fun k : Nat => [(128, dInt k), (127, dInt c.funs.length), (13, .d (.sl (hintsD B))), (14, .d (.sl (fns (allOf c B)))), (2, dInt fn), (3, .ptr 3 0 0)]) (fun _ => [(3, some (.box c.cells))]) (fun k => c.funs.length - k) (fun k => k ≤ c.funs.length) 0 (by omega) qs fun k hk => ?_
      by_cases hkl : k < c.funs.length
      · obtain ⟨f, hf⟩ := get_ex hkl
        have hk1 : (k:Int) < c.funs.length := by omega
        have hfm := List.mem_of_getElem? hf
        have hfg := fnGood_of (hgd.fun0 f hfm)
        have hrf : roundF f.ins = false := by simpa using List.any_eq_false.1 hr f hfm
        have hC10 := C10 c f k B hc.sz.ok (by show _ ≤ _; omega) h0 (by simp [wi]; omega) (by simpa using hf) (hc.sz.args f hfm)
        have hC19 := C19 c B f k hc.sz (by show _ ≤ _; omega) h0 hf hrf
        obtain ⟨s1, s2⟩ := fast_sm (c := c) (l := B) (fn := k) hfg.len (hc.sz.args f hfm)
        have hC20 := C20 (fastOf c B k f) (fastOf c B k f) s1 s1 s2 s2
        rw [sameFn_refl] at hC20
        have hga := allOf_get (l := B) hf
        generalize fastOf c B k f = q at *
        have E := And.intro @hk1 (And.intro (fns_get hga) (@hal))
        repeat' first | refine R_nil ?_ | ((with_reducible apply tagG); first | refine qg1 ?_ | refine qg2 ?_ | refine qg3 ?_ | refine qg4 ?_ | refine qg5 ?_ | refine qg6 (fun hb => ?_) (fun hb => ?_)) | ((with_reducible apply tagK); first | ((with_reducible apply tagD); first | refine qd5 (hC14b) ?_ | refine qd5 (hC10) ?_ | refine qd5 (hC19) ?_ | refine qd5 (hC20) ?_) | ((with_reducible apply tagR); first | refine qr5 (hC14b) ?_ | refine qr5 (hC10) ?_ | refine qr5 (hC19) ?_ | refine qr5 (hC20) ?_)) | ((with_reducible apply tagS); first | ((with_reducible apply tagD); first | refine qd1 ?_ | refine qd3 ?_) | ((with_reducible apply tagR); first | refine qr1 ?_ | refine qr3 ?_)) | ((with_reducible apply tagN); first | ((with_reducible apply tagD); first | refine qd2 ?_ | refine qd4 ?_) | ((with_reducible apply tagR); first | refine qr2 ?_ | refine qr4 ?_)) | ((with_reducible apply tagW); first | refine qw1 ?_ | refine qw2 ?_ | refine qw3 ?_ | refine qw4 ?_ | refine qw5 ?_ | refine qw6 (fun hb => ?_) (fun hb => ?_) | refine qw7 ?_ | refine qw8 ?_ | refine qw9 ?_ | refine qw0 ?_) | refine thenQ_n ?_ | refine thenQ_e ?_ | refine thenQ_r ?_ | refine blockQ_n ?_ | refine blockQ_r ?_ | refine blockQ_hit ?_ | refine qb4 ?_ | refine qe ?_ | refine loopQ_e ?_ | refine loopQ_r ?_
        all_goals clear E
        refine loopQ_n (k + 1) (by omega) (by omega) qs
      · have hk0 : ¬ (k:Int) < c.funs.length := by omega
        cases hw : wi fn c.funs.length with
        | true =>
          have hw' := hw
          simp only [wi, Bool.and_eq_true, decide_eq_true_eq] at hw'
          obtain ⟨w0, w1⟩ := hw'
          obtain ⟨f, hf⟩ := get_ex (show fn.toNat < c.funs.length by omega)
          have hC10 := C10 c f fn B hc.sz.ok (by show _ ≤ _; omega) h0 hw hf (hc.sz.args f (List.mem_of_getElem? hf))
          generalize fastOf c B fn f = q at *
          have E := And.intro @hk0 (And.intro @w0 (@w1))
          repeat' first | refine R_nil ?_ | ((with_reducible apply tagG); first | refine qg1 ?_ | refine qg2 ?_ | refine qg3 ?_ | refine qg4 ?_ | refine qg5 ?_ | refine qg6 (fun hb => ?_) (fun hb => ?_)) | ((with_reducible apply tagK); first | ((with_reducible apply tagD); first | refine qd5 (hC14b) ?_ | refine qd5 (hC10) ?_) | ((with_reducible apply tagR); first | refine qr5 (hC14b) ?_ | refine qr5 (hC10) ?_)) | ((with_reducible apply tagS); first | ((with_reducible apply tagD); first | refine qd1 ?_ | refine qd3 ?_) | ((with_reducible apply tagR); first | refine qr1 ?_ | refine qr3 ?_)) | ((with_reducible apply tagN); first | ((with_reducible apply tagD); first | refine qd2 ?_ | refine qd4 ?_) | ((with_reducible apply tagR); first | refine qr2 ?_ | refine qr4 ?_)) | ((with_reducible apply tagW); first | refine qw1 ?_ | refine qw2 ?_ | refine qw3 ?_ | refine qw4 ?_ | refine qw5 ?_ | refine qw6 (fun hb => ?_) (fun hb => ?_) | refine qw7 ?_ | refine qw8 ?_ | refine qw9 ?_ | refine qw0 ?_) | refine thenQ_n ?_ | refine thenQ_e ?_ | refine thenQ_r ?_ | refine blockQ_n ?_ | refine blockQ_r ?_ | refine blockQ_hit ?_ | refine qb4 ?_ | refine qe ?_ | refine loopQ_e ?_ | refine loopQ_r ?_
          all_goals clear E
          exact ret_d rfl rfl
        | false =>
          have hC10 := C10n c fn B hc.sz.ok h0 hw
          rcases wi_cases hw with h | ⟨h, h'⟩
          · have w0 : ¬ (0:Int) ≤ fn := by omega
            have E := And.intro @hk0 (And.intro @w0 (And.intro @h (@inss_nil)))
            repeat' first | refine R_nil ?_ | ((with_reducible apply tagG); first | refine qg1 ?_ | refine qg2 ?_ | refine qg3 ?_ | refine qg4 ?_ | refine qg5 ?_ | refine qg6 (fun hb => ?_) (fun hb => ?_)) | ((with_reducible apply tagK); first | ((with_reducible apply tagD); first | refine qd5 (hC14b) ?_ | refine qd5 (hC10) ?_) | ((with_reducible apply tagR); first | refine qr5 (hC14b) ?_ | refine qr5 (hC10) ?_)) | ((with_reducible apply tagS); first | ((with_reducible apply tagD); first | refine qd1 ?_ | refine qd3 ?_) | ((with_reducible apply tagR); first | refine qr1 ?_ | refine qr3 ?_)) | ((with_reducible apply tagN); first | ((with_reducible apply tagD); first | refine qd2 ?_ | refine qd4 ?_) | ((with_reducible apply tagR); first | refine qr2 ?_ | refine qr4 ?_)) | ((with_reducible apply tagW); first | refine qw1 ?_ | refine qw2 ?_ | refine qw3 ?_ | refine qw4 ?_ | refine qw5 ?_ | refine qw6 (fun hb => ?_) (fun hb => ?_) | refine qw7 ?_ | refine qw8 ?_ | refine qw9 ?_ | refine qw0 ?_) | refine thenQ_n ?_ | refine thenQ_e ?_ | refine thenQ_r ?_ | refine blockQ_n ?_ | refine blockQ_r ?_ | refine blockQ_hit ?_ | refine qb4 ?_ | refine qe ?_ | refine loopQ_e ?_ | refine loopQ_r ?_
            all_goals clear E
            exact ret_d rfl rfl
          · have w0 : (0:Int) ≤ fn := by omega
            have w1 : ¬ fn < c.funs.length := by omega
            have E := And.intro @hk0 (And.intro @w0 (And.intro @w1 (And.intro @h (And.intro @h' (@inss_nil)))))
            repeat' first | refine R_nil ?_ | ((with_reducible apply tagG); first | refine qg1 ?_ | refine qg2 ?_ | refine qg3 ?_ | refine qg4 ?_ | refine qg5 ?_ | refine qg6 (fun hb => ?_) (fun hb => ?_)) | ((with_reducible apply tagK); first | ((with_reducible apply tagD); first | refine qd5 (hC14b) ?_ | refine qd5 (hC10) ?_) | ((with_reducible apply tagR); first | refine qr5 (hC14b) ?_ | refine qr5 (hC10) ?_)) | ((with_reducible apply tagS); first | ((with_reducible apply tagD); first | refine qd1 ?_ | refine qd3 ?_) | ((with_reducible apply tagR); first | refine qr1 ?_ | refine qr3 ?_)) | ((with_reducible apply tagN); first | ((with_reducible apply tagD); first | refine qd2 ?_ | refine qd4 ?_) | ((with_reducible apply tagR); first | refine qr2 ?_ | refine qr4 ?_)) | ((with_reducible apply tagW); first | refine qw1 ?_ | refine qw2 ?_ | refine qw3 ?_ | refine qw4 ?_ | refine qw5 ?_ | refine qw6 (fun hb => ?_) (fun hb => ?_) | refine qw7 ?_ | refine qw8 ?_ | refine qw9 ?_ | refine qw0 ?_) | refine thenQ_n ?_ | refine thenQ_e ?_ | refine thenQ_r ?_ | refine blockQ_n ?_ | refine blockQ_r ?_ | refine blockQ_hit ?_ | refine qb4 ?_ | refine qe ?_ | refine loopQ_e ?_ | refine loopQ_r ?_
            all_goals clear E
            exact ret_d rfl rfl
  · have hC10 := C10e c fn [] hc.sz.ok h0
    have hC11 := C11e c [] hc.sz.ok h0
    rw [show hintsD [] = [] from rfl] at hC10 hC11
    have hC10 := C_full (xs := [c.av, dInt fn]) (bs := []) hC10
    have hC11 := C_full (xs := [c.av]) (bs := []) hC11
    simp only [List.cons_append, List.nil_append] at hC10 hC11
    have e0 : decide (codErr c = 0) = false := by simp [h0]
    refine W_sub [(49, .d (.lit (.bool true))), (8, dInt (codErr c)), (3, .ptr 3 0 0), (2, dInt fn)] [(3, some (.box c.cells))] (by have E := e0; exact qs) ?_
    by_cases hf0 : c.funs.length = 0
    · rw [if_pos hf0] at hC11
      have hf1 : (c.funs.length : Int) = 0 := by omega
      have e00 : decide (0 = codErr c) = false := by simp; omega
      have E := And.intro @e0 (And.intro @e00 (@hf1))
      repeat' first | refine R_nil ?_ | ((with_reducible apply tagG); first | refine qg1 ?_ | refine qg2 ?_ | refine qg3 ?_ | refine qg4 ?_ | refine qg5 ?_ | refine qg6 (fun hb => ?_) (fun hb => ?_)) | ((with_reducible apply tagK); first | ((with_reducible apply tagD); first | refine qd5 (hC10) ?_ | refine qd5 (hC11) ?_) | ((with_reducible apply tagR); first | refine qr5 (hC10) ?_ | refine qr5 (hC11) ?_)) | ((with_reducible apply tagS); first | ((with_reducible apply tagD); first | refine qd1 ?_ | refine qd3 ?_) | ((with_reducible apply tagR); first | refine qr1 ?_ | refine qr3 ?_)) | ((with_reducible apply tagN); first | ((with_reducible apply tagD); first | refine qd2 ?_ | refine qd4 ?_) | ((with_reducible apply tagR); first | refine qr2 ?_ | refine qr4 ?_)) | ((with_reducible apply tagW); first | refine qw1 ?_ | refine qw2 ?_ | refine qw3 ?_ | refine qw4 ?_ | refine qw5 ?_ | refine qw6 (fun hb => ?_) (fun hb => ?_) | refine qw7 ?_ | refine qw8 ?_ | refine qw9 ?_ | refine qw0 ?_) | refine thenQ_n ?_ | refine thenQ_e ?_ | refine thenQ_r ?_ | refine blockQ_n ?_ | refine blockQ_r ?_ | refine blockQ_hit ?_ | refine qb4 ?_ | refine qe ?_ | refine loopQ_e ?_ | refine loopQ_r ?_
      all_goals clear E
      exact ret_d rfl rfl
    · rw [if_neg hf0] at hC11
      have E := @e0
      repeat' first | refine R_nil ?_ | ((with_reducible apply tagG); first | refine qg1 ?_ | refine qg2 ?_ | refine qg3 ?_ | refine qg4 ?_ | refine qg5 ?_ | refine qg6 (fun hb => ?_) (fun hb => ?_)) | ((with_reducible apply tagK); first | ((with_reducible apply tagD); first | refine qd5 (hC10) ?_ | refine qd5 (hC11) ?_) | ((with_reducible apply tagR); first | refine qr5 (hC10) ?_ | refine qr5 (hC11) ?_)) | ((with_reducible apply tagS); first | ((with_reducible apply tagD); first | refine qd1 ?_ | refine qd3 ?_) | ((with_reducible apply tagR); first | refine qr1 ?_ | refine qr3 ?_)) | ((with_reducible apply tagN); first | ((with_reducible apply tagD); first | refine qd2 ?_ | refine qd4 ?_) | ((with_reducible apply tagR); first | refine qr2 ?_ | refine qr4 ?_)) | ((with_reducible apply tagW); first | refine qw1 ?_ | refine qw2 ?_ | refine qw3 ?_ | refine qw4 ?_ | refine qw5 ?_ | refine qw6 (fun hb => ?_) (fun hb => ?_) | refine qw7 ?_ | refine qw8 ?_ | refine qw9 ?_ | refine qw0 ?_) | refine thenQ_n ?_ | refine thenQ_e ?_ | refine thenQ_r ?_ | refine blockQ_n ?_ | refine blockQ_r ?_ | refine blockQ_hit ?_ | refine qb4 ?_ | refine qe ?_ | refine loopQ_e ?_ | refine loopQ_r ?_
      all_goals clear E
      exact ret_d rfl rfl
end Go.Pw
