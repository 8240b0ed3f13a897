/- Functions of the law: what a call of a trait is believed to be. -/
import Derived.Test.YtppebcfhhoggiaaQF42
set_option linter.unusedVariables false
set_option linter.unusedSimpArgs false
namespace Go.Pw
open Go Go.Proofs
attribute [local irreducible] runL W endD thenQ blockQ loopQ
set_option maxRecDepth 8000
set_option maxHeartbeats 16000000
def txIdx (c : Cod) (t : ByteArray) : Nat := c.texts.findIdx fun y => decide (y = t)
def dirFull (c : Cod) (l : List Hint) (fn pc : Int) (i : Ins) : Int × Int × Bool :=
  if i.op = 7 then
    match l.find? (fun h => decide (h.fn = fn) && decide (h.pc = pc)) with
    | none => (0, 0, false)
    | some h => match c.impls.find? (fun x => decide (x.name = textAt c i.b) && decide (x.for_ = h.tag)) with
      | none => (0, 0, false)
      | some m => (txIdx c h.tag, m.fn, decide ((txIdx c h.tag : Int) < c.texts.length) && decide (paramsAt c m.fn = i.args.length))
  else (0, 0, false)
def tri (r : Int × Int × Bool) : AV := .tup [dInt r.1, dInt r.2.1, dBool r.2.2]
theorem idx_findIdx {α : Type} (p : α → Bool) : ∀ (l : List α) (i : Int), idx p i l = if l.findIdx p < l.length then i + l.findIdx p else -1
  | [], _ => rfl
  | y :: l, i => by
    simp only [idx, List.findIdx_cons, List.length_cons]
    cases hp : p y with
    | true => simp
    | false =>
      rw [if_neg (by simp), idx_findIdx p l (i + 1)]
      simp only [cond_false]
      by_cases h : l.findIdx p < l.length
      · rw [if_pos h, if_pos (by omega)]; omega
      · rw [if_neg h, if_neg (by omega)]
theorem dirFull_some {c : Cod} {l : List Hint} {fn pc : Int} {i : Ins} {tn : Int × Int} (h : direct c l fn pc i = some tn) : dirFull c l fn pc i = (tn.1, tn.2, true) := by
  unfold direct at h
  unfold dirFull
  split at h
  · rename_i h7
    rw [if_pos h7]
    split at h
    · cases h
    · rename_i y hy
      rw [hy]
      dsimp only
      split at h
      · cases h
      · rename_i m hm
        rw [hm]
        dsimp only
        have e : idx (fun z => decide (y.tag = z)) 0 c.texts = if txIdx c y.tag < c.texts.length then (0 : Int) + txIdx c y.tag else -1 := by
          rw [idx_findIdx, show (fun z : ByteArray => decide (y.tag = z)) = (fun z => decide (z = y.tag)) from funext fun z => by rw [decide_eq_decide]; exact eq_comm]; rfl
        rw [e] at h
        by_cases hl : txIdx c y.tag < c.texts.length
        · have hl' : (txIdx c y.tag : Int) < c.texts.length := by omega
          rw [if_pos hl] at h
          by_cases h2 : paramsAt c m.fn = i.args.length
          · rw [if_pos ⟨by omega, h2⟩] at h
            obtain rfl := Option.some.inj h
            simp [hl', h2]
          · rw [if_neg fun q => h2 q.2] at h; cases h
        · rw [if_neg hl, if_neg fun q => absurd q.1 (by decide)] at h; cases h
  · cases h
theorem dirFull_none {c : Cod} {l : List Hint} {fn pc : Int} {i : Ins} (h : direct c l fn pc i = none) : (dirFull c l fn pc i).2.2 = false := by
  unfold direct at h
  unfold dirFull
  split at h
  · rename_i h7
    rw [if_pos h7]
    split at h
    · rename_i hy
      rw [hy]
    · rename_i y hy
      rw [hy]
      dsimp only
      split at h
      · rename_i hm
        rw [hm]
      · rename_i m hm
        rw [hm]
        dsimp only
        have e : idx (fun z => decide (y.tag = z)) 0 c.texts = if txIdx c y.tag < c.texts.length then (0 : Int) + txIdx c y.tag else -1 := by
          rw [idx_findIdx, show (fun z : ByteArray => decide (y.tag = z)) = (fun z => decide (z = y.tag)) from funext fun z => by rw [decide_eq_decide]; exact eq_comm]; rfl
        rw [e] at h
        by_cases hl : txIdx c y.tag < c.texts.length
        · rw [if_pos hl] at h
          by_cases h2 : paramsAt c m.fn = i.args.length
          · rw [if_pos ⟨by omega, h2⟩] at h; cases h
          · simp [h2]
        · simp [hl]
  · rename_i h7
    rw [if_neg h7]
theorem C46 (c : Cod) (l : List Hint) (f : Fn) (x : Ins) (k j : Nat) (hc : c.Sz) (hl : Sm l) (h0 : codErr c = 0) (hf : c.funs[k]? = some f) (hx : f.ins[j]? = some x) :
    C Try.prog 46 [c.av, dInt k, dInt j, .d (.sl (hintsD l))] [] (tri (dirFull c l k j x)) [] [] := by
  have hgd := good_of h0
  have hk1 : (k:Int) < c.funs.length := by have := (List.getElem?_eq_some_iff.1 hf).1; omega
  have hj1 : (j:Int) < f.ins.length := by have := (List.getElem?_eq_some_iff.1 hx).1; omega
  have hcf := hc.funs
  have hfm := List.mem_of_getElem? hf
  have hfl := hc.ins f hfm
  have hfg := fnGood_of (hgd.fun0 f hfm)
  have hct : c.texts.length ≤ 4000 := by
    have := hgd.large
    simp only [codLarge, Bool.or_eq_false_iff, decide_eq_false_iff_not] at this; omega
  have hci := hc.ok.impls
  refine C_intro T_ok (rs := [.tmp 8, .tmp 9, .tmp 10]) Try.func46 rfl rfl rfl (Nat.le_of_ble_eq_true rfl) (Nat.le_of_ble_eq_true rfl) rfl ⟨rfl, rfl⟩ rfl fun cx hn => ?_
  have hn : cx.n = 108 := hn
  have Y := And.intro T3 (And.intro T4 (And.intro T9 (And.intro T22 (And.intro T23 (And.intro T24 (And.intro T25 (And.intro T26 (And.intro T27 (And.intro T28 (And.intro T30 (And.intro T38 (And.intro T40 (And.intro T51 (And.intro T60 (And.intro T61 (And.intro T63 (And.intro T67 (And.intro T75 (And.intro T77 (T88))))))))))))))))))))
  simp only [enumA, enumO, Nat.reduceAdd]
  by_cases h7 : x.op = 7
  · have e7 : decide (x.op = 7) = true := by simp [h7]
    have hw := (hfg.trait (List.mem_of_getElem? hx) h7).1
    obtain ⟨s, hst, hb0, hb1⟩ := wi_get hw
    have htx : textAt c x.b = s := by simp [textAt, hst]
    have E := And.intro @hk1 (And.intro @hj1 (And.intro (fns_get hf) (And.intro (inss_get hx) (@e7))))
    repeat' first | refine R_nil ?_ | ((with_reducible apply tagG); first | refine qg1 ?_ | refine qg2 ?_ | refine qg3 ?_ | refine qg4 ?_ | refine qg5 ?_ | refine qg6 (fun hb => ?_) (fun hb => ?_)) | ((with_reducible apply tagS); first | ((with_reducible apply tagD); first | refine qd1 ?_ | refine qd3 ?_) | ((with_reducible apply tagR); first | refine qr1 ?_ | refine qr3 ?_)) | ((with_reducible apply tagN); first | ((with_reducible apply tagD); first | refine qd2 ?_ | refine qd4 ?_) | ((with_reducible apply tagR); first | refine qr2 ?_ | refine qr4 ?_)) | ((with_reducible apply tagW); first | refine qw1 ?_ | refine qw2 ?_ | refine qw3 ?_ | refine qw4 ?_ | refine qw5 ?_ | refine qw6 (fun hb => ?_) (fun hb => ?_) | refine qw7 ?_ | refine qw8 ?_ | refine qw9 ?_ | refine qw0 ?_) | refine thenQ_n ?_ | refine thenQ_e ?_ | refine thenQ_r ?_ | refine blockQ_n ?_ | refine blockQ_r ?_ | refine blockQ_hit ?_ | refine qb4 ?_ | refine qe ?_ | refine loopQ_e ?_ | refine loopQ_r ?_
    all_goals clear E
    refine W_loopQ (fun i : Nat => [(31, dInt i), (30, dInt l.length), (29, .d (.sl (hintsD l))), (1, dInt k), (2, dInt j), (4, .ptr 4 0 0), (11, .ptr 11 0 0)]) (fun _ => [(11, some (.box x.cells)), (4, some (.box c.cells))]) (fun i => l.length - i) (fun i => i ≤ l.length ∧ l.find? (fun h : Hint => decide (h.fn = (k : Int)) && decide (h.pc = (j : Int))) = (l.drop i).find? (fun h : Hint => decide (h.fn = (k : Int)) && decide (h.pc = (j : Int)))) 0 ⟨by omega, rfl⟩ qs fun i ⟨hi, hq⟩ => ?_
    by_cases hil : i < l.length
    · obtain ⟨h, hh⟩ := get_ex hil
      have hi1 : (i:Int) < l.length := by omega
      rw [find_drop hh] at hq
      by_cases hp1 : h.fn = k
      · have p1 : decide (h.fn = k) = true := by simp [hp1]
        by_cases hp2 : h.pc = j
        · have p2 : decide (h.pc = j) = true := by simp [hp2]
          rw [p1, p2, Bool.and_self, if_pos rfl] at hq
          have E := And.intro @hi1 (And.intro (hintsD_get hh) (And.intro @p1 (@p2)))
          repeat' first | refine R_nil ?_ | ((with_reducible apply tagG); first | refine qg1 ?_ | refine qg2 ?_ | refine qg3 ?_ | refine qg4 ?_ | refine qg5 ?_ | refine qg6 (fun hb => ?_) (fun hb => ?_)) | ((with_reducible apply tagS); first | ((with_reducible apply tagD); first | refine qd1 ?_ | refine qd3 ?_) | ((with_reducible apply tagR); first | refine qr1 ?_ | refine qr3 ?_)) | ((with_reducible apply tagN); first | ((with_reducible apply tagD); first | refine qd2 ?_ | refine qd4 ?_) | ((with_reducible apply tagR); first | refine qr2 ?_ | refine qr4 ?_)) | ((with_reducible apply tagW); first | refine qw1 ?_ | refine qw2 ?_ | refine qw3 ?_ | refine qw4 ?_ | refine qw5 ?_ | refine qw6 (fun hb => ?_) (fun hb => ?_) | refine qw7 ?_ | refine qw8 ?_ | refine qw9 ?_ | refine qw0 ?_) | refine thenQ_n ?_ | refine thenQ_e ?_ | refine thenQ_r ?_ | refine blockQ_n ?_ | refine blockQ_r ?_ | refine blockQ_hit ?_ | refine qb4 ?_ | refine qe ?_ | refine loopQ_e ?_ | refine loopQ_r ?_
          all_goals clear E
          refine W_loopQ (fun t : Nat => [(14, dInt t), (4, .ptr 4 0 0), (11, .ptr 11 0 0), (13, .ptr 13 0 0)]) (fun _ => [(13, some (.box [dInt h.fn, dInt h.pc, dStr h.tag])), (11, some (.box x.cells)), (4, some (.box c.cells))]) (fun t => c.texts.length - t) (fun t => t ≤ c.texts.length ∧ txIdx c h.tag = t + (c.texts.drop t).findIdx (fun y => decide (y = h.tag))) 0 ⟨by omega, by simp [txIdx]⟩ qs fun t ⟨ht, htt⟩ => ?_
          by_cases htl : t < c.texts.length
          · obtain ⟨z, hz⟩ := get_ex htl
            have ht1 : (t:Int) < c.texts.length := by omega
            rw [drop_some hz, List.findIdx_cons] at htt
            by_cases hzt : z = h.tag
            · have z1 : decide (z = h.tag) = true := by simp [hzt]
              rw [z1, cond_true, Nat.add_zero] at htt
              have E := And.intro @ht1 (And.intro (strs_get hz) (@z1))
              repeat' first | refine R_nil ?_ | ((with_reducible apply tagG); first | refine qg1 ?_ | refine qg2 ?_ | refine qg3 ?_ | refine qg4 ?_ | refine qg5 ?_ | refine qg6 (fun hb => ?_) (fun hb => ?_)) | ((with_reducible apply tagS); first | ((with_reducible apply tagD); first | refine qd1 ?_ | refine qd3 ?_) | ((with_reducible apply tagR); first | refine qr1 ?_ | refine qr3 ?_)) | ((with_reducible apply tagN); first | ((with_reducible apply tagD); first | refine qd2 ?_ | refine qd4 ?_) | ((with_reducible apply tagR); first | refine qr2 ?_ | refine qr4 ?_)) | ((with_reducible apply tagW); first | refine qw1 ?_ | refine qw2 ?_ | refine qw3 ?_ | refine qw4 ?_ | refine qw5 ?_ | refine qw6 (fun hb => ?_) (fun hb => ?_) | refine qw7 ?_ | refine qw8 ?_ | refine qw9 ?_ | refine qw0 ?_) | refine thenQ_n ?_ | refine thenQ_e ?_ | refine thenQ_r ?_ | refine blockQ_n ?_ | refine blockQ_r ?_ | refine blockQ_hit ?_ | refine qb4 ?_ | refine qe ?_ | refine loopQ_e ?_ | refine loopQ_r ?_
              all_goals clear E
              refine W_loopQ (fun m : Nat => [(65, dInt m), (64, dInt c.impls.length), (63, .d (.sl (implsD c.impls))), (14, dInt t), (4, .ptr 4 0 0), (11, .ptr 11 0 0), (13, .ptr 13 0 0)]) (fun _ => [(13, some (.box [dInt h.fn, dInt h.pc, dStr h.tag])), (11, some (.box x.cells)), (4, some (.box c.cells))]) (fun m => c.impls.length - m) (fun m => m ≤ c.impls.length ∧ c.impls.find? (fun y => decide (y.name = s) && decide (y.for_ = h.tag)) = (c.impls.drop m).find? (fun y => decide (y.name = s) && decide (y.for_ = h.tag))) 0 ⟨by omega, rfl⟩ qs fun m ⟨hm, hfi⟩ => ?_
              by_cases hml : m < c.impls.length
              · obtain ⟨y, hy⟩ := get_ex hml
                have hm1 : (m:Int) < c.impls.length := by omega
                rw [find_drop hy] at hfi
                by_cases hn' : y.name = s
                · have e3 : decide (y.name = s) = true := by simp [hn']
                  by_cases hf' : y.for_ = h.tag
                  · have e4 : decide (y.for_ = h.tag) = true := by simp [hf']
                    rw [e3, e4, Bool.and_self, if_pos rfl] at hfi
                    have hwy : wi y.fn c.funs.length = true := by
                      have := List.all_eq_true.1 hgd.imps y (List.mem_of_getElem? hy)
                      simp only [implGood, Bool.and_eq_true] at this
                      exact this.1
                    obtain ⟨g, hg, hg0, hg1⟩ := wi_get hwy
                    have hpa : paramsAt c y.fn = g.params := by simp [paramsAt, hg]
                    by_cases htl : (t : Int) < c.texts.length
                    · have eD : dirFull c l k j x = ((t : Int), y.fn, decide (g.params = x.args.length)) := by
                        simp only [dirFull, if_pos h7, hq, htx, hfi, htt, hpa, htl, decide_true, Bool.true_and]
                      rw [eD]
                      have E := And.intro @hm1 (And.intro (implsD_get hy) (And.intro (strs_get hst) (And.intro @hb0 (And.intro @hb1 (And.intro @e3 (And.intro @e4 (And.intro @htl (And.intro (fns_get hg) (And.intro @hg0 (@hg1))))))))))
                      repeat' first | refine R_nil ?_ | ((with_reducible apply tagG); first | refine qg1 ?_ | refine qg2 ?_ | refine qg3 ?_ | refine qg4 ?_ | refine qg5 ?_ | refine qg6 (fun hb => ?_) (fun hb => ?_)) | ((with_reducible apply tagS); first | ((with_reducible apply tagD); first | refine qd1 ?_ | refine qd3 ?_) | ((with_reducible apply tagR); first | refine qr1 ?_ | refine qr3 ?_)) | ((with_reducible apply tagN); first | ((with_reducible apply tagD); first | refine qd2 ?_ | refine qd4 ?_) | ((with_reducible apply tagR); first | refine qr2 ?_ | refine qr4 ?_)) | ((with_reducible apply tagW); first | refine qw1 ?_ | refine qw2 ?_ | refine qw3 ?_ | refine qw4 ?_ | refine qw5 ?_ | refine qw6 (fun hb => ?_) (fun hb => ?_) | refine qw7 ?_ | refine qw8 ?_ | refine qw9 ?_ | refine qw0 ?_) | refine thenQ_n ?_ | refine thenQ_e ?_ | refine thenQ_r ?_ | refine blockQ_n ?_ | refine blockQ_r ?_ | refine blockQ_hit ?_ | refine qb4 ?_ | refine qe ?_ | refine loopQ_e ?_ | refine loopQ_r ?_
                      all_goals clear E
                      all_goals exact finQ_g (G_d []) (ret_a rfl)
                    · have eD : dirFull c l k j x = ((t : Int), y.fn, false) := by
                        simp only [dirFull, if_pos h7, hq, htx, hfi, htt, hpa, htl, decide_false, Bool.false_and]
                      rw [eD]
                      have E := And.intro @hm1 (And.intro (implsD_get hy) (And.intro (strs_get hst) (And.intro @hb0 (And.intro @hb1 (And.intro @e3 (And.intro @e4 (@htl)))))))
                      repeat' first | refine R_nil ?_ | ((with_reducible apply tagG); first | refine qg1 ?_ | refine qg2 ?_ | refine qg3 ?_ | refine qg4 ?_ | refine qg5 ?_ | refine qg6 (fun hb => ?_) (fun hb => ?_)) | ((with_reducible apply tagS); first | ((with_reducible apply tagD); first | refine qd1 ?_ | refine qd3 ?_) | ((with_reducible apply tagR); first | refine qr1 ?_ | refine qr3 ?_)) | ((with_reducible apply tagN); first | ((with_reducible apply tagD); first | refine qd2 ?_ | refine qd4 ?_) | ((with_reducible apply tagR); first | refine qr2 ?_ | refine qr4 ?_)) | ((with_reducible apply tagW); first | refine qw1 ?_ | refine qw2 ?_ | refine qw3 ?_ | refine qw4 ?_ | refine qw5 ?_ | refine qw6 (fun hb => ?_) (fun hb => ?_) | refine qw7 ?_ | refine qw8 ?_ | refine qw9 ?_ | refine qw0 ?_) | refine thenQ_n ?_ | refine thenQ_e ?_ | refine thenQ_r ?_ | refine blockQ_n ?_ | refine blockQ_r ?_ | refine blockQ_hit ?_ | refine qb4 ?_ | refine qe ?_ | refine loopQ_e ?_ | refine loopQ_r ?_
                      all_goals clear E
                      exact finQ_g (G_d []) (ret_a rfl)
                  · have e4 : decide (y.for_ = h.tag) = false := by simp [hf']
                    rw [e3, e4] at hfi
                    have E := And.intro @hm1 (And.intro (implsD_get hy) (And.intro (strs_get hst) (And.intro @hb0 (And.intro @hb1 (And.intro @e3 (@e4))))))
                    repeat' first | refine R_nil ?_ | ((with_reducible apply tagG); first | refine qg1 ?_ | refine qg2 ?_ | refine qg3 ?_ | refine qg4 ?_ | refine qg5 ?_ | refine qg6 (fun hb => ?_) (fun hb => ?_)) | ((with_reducible apply tagS); first | ((with_reducible apply tagD); first | refine qd1 ?_ | refine qd3 ?_) | ((with_reducible apply tagR); first | refine qr1 ?_ | refine qr3 ?_)) | ((with_reducible apply tagN); first | ((with_reducible apply tagD); first | refine qd2 ?_ | refine qd4 ?_) | ((with_reducible apply tagR); first | refine qr2 ?_ | refine qr4 ?_)) | ((with_reducible apply tagW); first | refine qw1 ?_ | refine qw2 ?_ | refine qw3 ?_ | refine qw4 ?_ | refine qw5 ?_ | refine qw6 (fun hb => ?_) (fun hb => ?_) | refine qw7 ?_ | refine qw8 ?_ | refine qw9 ?_ | refine qw0 ?_) | refine thenQ_n ?_ | refine thenQ_e ?_ | refine thenQ_r ?_ | refine blockQ_n ?_ | refine blockQ_r ?_ | refine blockQ_hit ?_ | refine qb4 ?_ | refine qe ?_ | refine loopQ_e ?_ | refine loopQ_r ?_
                    all_goals clear E
                    refine loopQ_n (m + 1) (by omega) ⟨by omega, hfi⟩ qs
                · have e3 : decide (y.name = s) = false := by simp [hn']
                  rw [e3, Bool.false_and] at hfi
                  have E := And.intro @hm1 (And.intro (implsD_get hy) (And.intro (strs_get hst) (And.intro @hb0 (And.intro @hb1 (@e3)))))
                  repeat' first | refine R_nil ?_ | ((with_reducible apply tagG); first | refine qg1 ?_ | refine qg2 ?_ | refine qg3 ?_ | refine qg4 ?_ | refine qg5 ?_ | refine qg6 (fun hb => ?_) (fun hb => ?_)) | ((with_reducible apply tagS); first | ((with_reducible apply tagD); first | refine qd1 ?_ | refine qd3 ?_) | ((with_reducible apply tagR); first | refine qr1 ?_ | refine qr3 ?_)) | ((with_reducible apply tagN); first | ((with_reducible apply tagD); first | refine qd2 ?_ | refine qd4 ?_) | ((with_reducible apply tagR); first | refine qr2 ?_ | refine qr4 ?_)) | ((with_reducible apply tagW); first | refine qw1 ?_ | refine qw2 ?_ | refine qw3 ?_ | refine qw4 ?_ | refine qw5 ?_ | refine qw6 (fun hb => ?_) (fun hb => ?_) | refine qw7 ?_ | refine qw8 ?_ | refine qw9 ?_ | refine qw0 ?_) | refine thenQ_n ?_ | refine thenQ_e ?_ | refine thenQ_r ?_ | refine blockQ_n ?_ | refine blockQ_r ?_ | refine blockQ_hit ?_ | refine qb4 ?_ | refine qe ?_ | refine loopQ_e ?_ | refine loopQ_r ?_
                  all_goals clear E
                  refine loopQ_n (m + 1) (by omega) ⟨by omega, hfi⟩ qs
              · have hm0 : ¬ (m:Int) < c.impls.length := by omega
                rw [drop_none hml] at hfi
                have eD : dirFull c l k j x = (0, 0, false) := by
                  simp only [dirFull, if_pos h7, hq, htx, hfi, List.find?_nil]
                rw [eD]
                have E := @hm0
                repeat' first | refine R_nil ?_ | ((with_reducible apply tagG); first | refine qg1 ?_ | refine qg2 ?_ | refine qg3 ?_ | refine qg4 ?_ | refine qg5 ?_ | refine qg6 (fun hb => ?_) (fun hb => ?_)) | ((with_reducible apply tagS); first | ((with_reducible apply tagD); first | refine qd1 ?_ | refine qd3 ?_) | ((with_reducible apply tagR); first | refine qr1 ?_ | refine qr3 ?_)) | ((with_reducible apply tagN); first | ((with_reducible apply tagD); first | refine qd2 ?_ | refine qd4 ?_) | ((with_reducible apply tagR); first | refine qr2 ?_ | refine qr4 ?_)) | ((with_reducible apply tagW); first | refine qw1 ?_ | refine qw2 ?_ | refine qw3 ?_ | refine qw4 ?_ | refine qw5 ?_ | refine qw6 (fun hb => ?_) (fun hb => ?_) | refine qw7 ?_ | refine qw8 ?_ | refine qw9 ?_ | refine qw0 ?_) | refine thenQ_n ?_ | refine thenQ_e ?_ | refine thenQ_r ?_ | refine blockQ_n ?_ | refine blockQ_r ?_ | refine blockQ_hit ?_ | refine qb4 ?_ | refine qe ?_ | refine loopQ_e ?_ | refine loopQ_r ?_
                all_goals clear E
                exact finQ_g (G_d []) (ret_a rfl)
            · have z1 : decide (z = h.tag) = false := by simp [hzt]
              rw [z1, cond_false] at htt
              have E := And.intro @ht1 (And.intro (strs_get hz) (@z1))
              repeat' first | refine R_nil ?_ | ((with_reducible apply tagG); first | refine qg1 ?_ | refine qg2 ?_ | refine qg3 ?_ | refine qg4 ?_ | refine qg5 ?_ | refine qg6 (fun hb => ?_) (fun hb => ?_)) | ((with_reducible apply tagS); first | ((with_reducible apply tagD); first | refine qd1 ?_ | refine qd3 ?_) | ((with_reducible apply tagR); first | refine qr1 ?_ | refine qr3 ?_)) | ((with_reducible apply tagN); first | ((with_reducible apply tagD); first | refine qd2 ?_ | refine qd4 ?_) | ((with_reducible apply tagR); first | refine qr2 ?_ | refine qr4 ?_)) | ((with_reducible apply tagW); first | refine qw1 ?_ | refine qw2 ?_ | refine qw3 ?_ | refine qw4 ?_ | refine qw5 ?_ | refine qw6 (fun hb => ?_) (fun hb => ?_) | refine qw7 ?_ | refine qw8 ?_ | refine qw9 ?_ | refine qw0 ?_) | refine thenQ_n ?_ | refine thenQ_e ?_ | refine thenQ_r ?_ | refine blockQ_n ?_ | refine blockQ_r ?_ | refine blockQ_hit ?_ | refine qb4 ?_ | refine qe ?_ | refine loopQ_e ?_ | refine loopQ_r ?_
              all_goals clear E
              refine loopQ_n (t + 1) (by omega) ⟨by omega, by omega⟩ qs
          · have ht0 : ¬ (t:Int) < c.texts.length := by omega
            rw [drop_none htl, List.findIdx_nil, Nat.add_zero] at htt
            have E := @ht0
            repeat' first | refine R_nil ?_ | ((with_reducible apply tagG); first | refine qg1 ?_ | refine qg2 ?_ | refine qg3 ?_ | refine qg4 ?_ | refine qg5 ?_ | refine qg6 (fun hb => ?_) (fun hb => ?_)) | ((with_reducible apply tagS); first | ((with_reducible apply tagD); first | refine qd1 ?_ | refine qd3 ?_) | ((with_reducible apply tagR); first | refine qr1 ?_ | refine qr3 ?_)) | ((with_reducible apply tagN); first | ((with_reducible apply tagD); first | refine qd2 ?_ | refine qd4 ?_) | ((with_reducible apply tagR); first | refine qr2 ?_ | refine qr4 ?_)) | ((with_reducible apply tagW); first | refine qw1 ?_ | refine qw2 ?_ | refine qw3 ?_ | refine qw4 ?_ | refine qw5 ?_ | refine qw6 (fun hb => ?_) (fun hb => ?_) | refine qw7 ?_ | refine qw8 ?_ | refine qw9 ?_ | refine qw0 ?_) | refine thenQ_n ?_ | refine thenQ_e ?_ | refine thenQ_r ?_ | refine blockQ_n ?_ | refine blockQ_r ?_ | refine blockQ_hit ?_ | refine qb4 ?_ | refine qe ?_ | refine loopQ_e ?_ | refine loopQ_r ?_
            all_goals clear E
            refine W_loopQ (fun m : Nat => [(65, dInt m), (64, dInt c.impls.length), (63, .d (.sl (implsD c.impls))), (14, dInt t), (4, .ptr 4 0 0), (11, .ptr 11 0 0), (13, .ptr 13 0 0)]) (fun _ => [(13, some (.box [dInt h.fn, dInt h.pc, dStr h.tag])), (11, some (.box x.cells)), (4, some (.box c.cells))]) (fun m => c.impls.length - m) (fun m => m ≤ c.impls.length ∧ c.impls.find? (fun y => decide (y.name = s) && decide (y.for_ = h.tag)) = (c.impls.drop m).find? (fun y => decide (y.name = s) && decide (y.for_ = h.tag))) 0 ⟨by omega, rfl⟩ qs fun m ⟨hm, hfi⟩ => ?_
            by_cases hml : m < c.impls.length
            · obtain ⟨y, hy⟩ := get_ex hml
              have hm1 : (m:Int) < c.impls.length := by omega
              rw [find_drop hy] at hfi
              by_cases hn' : y.name = s
              · have e3 : decide (y.name = s) = true := by simp [hn']
                by_cases hf' : y.for_ = h.tag
                · have e4 : decide (y.for_ = h.tag) = true := by simp [hf']
                  rw [e3, e4, Bool.and_self, if_pos rfl] at hfi
                  have hwy : wi y.fn c.funs.length = true := by
                    have := List.all_eq_true.1 hgd.imps y (List.mem_of_getElem? hy)
                    simp only [implGood, Bool.and_eq_true] at this
                    exact this.1
                  obtain ⟨g, hg, hg0, hg1⟩ := wi_get hwy
                  have hpa : paramsAt c y.fn = g.params := by simp [paramsAt, hg]
                  by_cases htl : (t : Int) < c.texts.length
                  · have eD : dirFull c l k j x = ((t : Int), y.fn, decide (g.params = x.args.length)) := by
                      simp only [dirFull, if_pos h7, hq, htx, hfi, htt, hpa, htl, decide_true, Bool.true_and]
                    rw [eD]
                    have E := And.intro @hm1 (And.intro (implsD_get hy) (And.intro (strs_get hst) (And.intro @hb0 (And.intro @hb1 (And.intro @e3 (And.intro @e4 (And.intro @htl (And.intro (fns_get hg) (And.intro @hg0 (@hg1))))))))))
                    repeat' first | refine R_nil ?_ | ((with_reducible apply tagG); first | refine qg1 ?_ | refine qg2 ?_ | refine qg3 ?_ | refine qg4 ?_ | refine qg5 ?_ | refine qg6 (fun hb => ?_) (fun hb => ?_)) | ((with_reducible apply tagS); first | ((with_reducible apply tagD); first | refine qd1 ?_ | refine qd3 ?_) | ((with_reducible apply tagR); first | refine qr1 ?_ | refine qr3 ?_)) | ((with_reducible apply tagN); first | ((with_reducible apply tagD); first | refine qd2 ?_ | refine qd4 ?_) | ((with_reducible apply tagR); first | refine qr2 ?_ | refine qr4 ?_)) | ((with_reducible apply tagW); first | refine qw1 ?_ | refine qw2 ?_ | refine qw3 ?_ | refine qw4 ?_ | refine qw5 ?_ | refine qw6 (fun hb => ?_) (fun hb => ?_) | refine qw7 ?_ | refine qw8 ?_ | refine qw9 ?_ | refine qw0 ?_) | refine thenQ_n ?_ | refine thenQ_e ?_ | refine thenQ_r ?_ | refine blockQ_n ?_ | refine blockQ_r ?_ | refine blockQ_hit ?_ | refine qb4 ?_ | refine qe ?_ | refine loopQ_e ?_ | refine loopQ_r ?_
                    all_goals clear E
                    all_goals exact finQ_g (G_d []) (ret_a rfl)
                  · have eD : dirFull c l k j x = ((t : Int), y.fn, false) := by
                      simp only [dirFull, if_pos h7, hq, htx, hfi, htt, hpa, htl, decide_false, Bool.false_and]
                    rw [eD]
                    have E := And.intro @hm1 (And.intro (implsD_get hy) (And.intro (strs_get hst) (And.intro @hb0 (And.intro @hb1 (And.intro @e3 (And.intro @e4 (@htl)))))))
                    repeat' first | refine R_nil ?_ | ((with_reducible apply tagG); first | refine qg1 ?_ | refine qg2 ?_ | refine qg3 ?_ | refine qg4 ?_ | refine qg5 ?_ | refine qg6 (fun hb => ?_) (fun hb => ?_)) | ((with_reducible apply tagS); first | ((with_reducible apply tagD); first | refine qd1 ?_ | refine qd3 ?_) | ((with_reducible apply tagR); first | refine qr1 ?_ | refine qr3 ?_)) | ((with_reducible apply tagN); first | ((with_reducible apply tagD); first | refine qd2 ?_ | refine qd4 ?_) | ((with_reducible apply tagR); first | refine qr2 ?_ | refine qr4 ?_)) | ((with_reducible apply tagW); first | refine qw1 ?_ | refine qw2 ?_ | refine qw3 ?_ | refine qw4 ?_ | refine qw5 ?_ | refine qw6 (fun hb => ?_) (fun hb => ?_) | refine qw7 ?_ | refine qw8 ?_ | refine qw9 ?_ | refine qw0 ?_) | refine thenQ_n ?_ | refine thenQ_e ?_ | refine thenQ_r ?_ | refine blockQ_n ?_ | refine blockQ_r ?_ | refine blockQ_hit ?_ | refine qb4 ?_ | refine qe ?_ | refine loopQ_e ?_ | refine loopQ_r ?_
                    all_goals clear E
                    exact finQ_g (G_d []) (ret_a rfl)
                · have e4 : decide (y.for_ = h.tag) = false := by simp [hf']
                  rw [e3, e4] at hfi
                  have E := And.intro @hm1 (And.intro (implsD_get hy) (And.intro (strs_get hst) (And.intro @hb0 (And.intro @hb1 (And.intro @e3 (@e4))))))
                  repeat' first | refine R_nil ?_ | ((with_reducible apply tagG); first | refine qg1 ?_ | refine qg2 ?_ | refine qg3 ?_ | refine qg4 ?_ | refine qg5 ?_ | refine qg6 (fun hb => ?_) (fun hb => ?_)) | ((with_reducible apply tagS); first | ((with_reducible apply tagD); first | refine qd1 ?_ | refine qd3 ?_) | ((with_reducible apply tagR); first | refine qr1 ?_ | refine qr3 ?_)) | ((with_reducible apply tagN); first | ((with_reducible apply tagD); first | refine qd2 ?_ | refine qd4 ?_) | ((with_reducible apply tagR); first | refine qr2 ?_ | refine qr4 ?_)) | ((with_reducible apply tagW); first | refine qw1 ?_ | refine qw2 ?_ | refine qw3 ?_ | refine qw4 ?_ | refine qw5 ?_ | refine qw6 (fun hb => ?_) (fun hb => ?_) | refine qw7 ?_ | refine qw8 ?_ | refine qw9 ?_ | refine qw0 ?_) | refine thenQ_n ?_ | refine thenQ_e ?_ | refine thenQ_r ?_ | refine blockQ_n ?_ | refine blockQ_r ?_ | refine blockQ_hit ?_ | refine qb4 ?_ | refine qe ?_ | refine loopQ_e ?_ | refine loopQ_r ?_
                  all_goals clear E
                  refine loopQ_n (m + 1) (by omega) ⟨by omega, hfi⟩ qs
              · have e3 : decide (y.name = s) = false := by simp [hn']
                rw [e3, Bool.false_and] at hfi
                have E := And.intro @hm1 (And.intro (implsD_get hy) (And.intro (strs_get hst) (And.intro @hb0 (And.intro @hb1 (@e3)))))
                repeat' first | refine R_nil ?_ | ((with_reducible apply tagG); first | refine qg1 ?_ | refine qg2 ?_ | refine qg3 ?_ | refine qg4 ?_ | refine qg5 ?_ | refine qg6 (fun hb => ?_) (fun hb => ?_)) | ((with_reducible apply tagS); first | ((with_reducible apply tagD); first | refine qd1 ?_ | refine qd3 ?_) | ((with_reducible apply tagR); first | refine qr1 ?_ | refine qr3 ?_)) | ((with_reducible apply tagN); first | ((with_reducible apply tagD); first | refine qd2 ?_ | refine qd4 ?_) | ((with_reducible apply tagR); first | refine qr2 ?_ | refine qr4 ?_)) | ((with_reducible apply tagW); first | refine qw1 ?_ | refine qw2 ?_ | refine qw3 ?_ | refine qw4 ?_ | refine qw5 ?_ | refine qw6 (fun hb => ?_) (fun hb => ?_) | refine qw7 ?_ | refine qw8 ?_ | refine qw9 ?_ | refine qw0 ?_) | refine thenQ_n ?_ | refine thenQ_e ?_ | refine thenQ_r ?_ | refine blockQ_n ?_ | refine blockQ_r ?_ | refine blockQ_hit ?_ | refine qb4 ?_ | refine qe ?_ | refine loopQ_e ?_ | refine loopQ_r ?_
                all_goals clear E
                refine loopQ_n (m + 1) (by omega) ⟨by omega, hfi⟩ qs
            · have hm0 : ¬ (m:Int) < c.impls.length := by omega
              rw [drop_none hml] at hfi
              have eD : dirFull c l k j x = (0, 0, false) := by
                simp only [dirFull, if_pos h7, hq, htx, hfi, List.find?_nil]
              rw [eD]
              have E := @hm0
              repeat' first | refine R_nil ?_ | ((with_reducible apply tagG); first | refine qg1 ?_ | refine qg2 ?_ | refine qg3 ?_ | refine qg4 ?_ | refine qg5 ?_ | refine qg6 (fun hb => ?_) (fun hb => ?_)) | ((with_reducible apply tagS); first | ((with_reducible apply tagD); first | refine qd1 ?_ | refine qd3 ?_) | ((with_reducible apply tagR); first | refine qr1 ?_ | refine qr3 ?_)) | ((with_reducible apply tagN); first | ((with_reducible apply tagD); first | refine qd2 ?_ | refine qd4 ?_) | ((with_reducible apply tagR); first | refine qr2 ?_ | refine qr4 ?_)) | ((with_reducible apply tagW); first | refine qw1 ?_ | refine qw2 ?_ | refine qw3 ?_ | refine qw4 ?_ | refine qw5 ?_ | refine qw6 (fun hb => ?_) (fun hb => ?_) | refine qw7 ?_ | refine qw8 ?_ | refine qw9 ?_ | refine qw0 ?_) | refine thenQ_n ?_ | refine thenQ_e ?_ | refine thenQ_r ?_ | refine blockQ_n ?_ | refine blockQ_r ?_ | refine blockQ_hit ?_ | refine qb4 ?_ | refine qe ?_ | refine loopQ_e ?_ | refine loopQ_r ?_
              all_goals clear E
              exact finQ_g (G_d []) (ret_a rfl)
        · have p2 : decide (h.pc = j) = false := by simp [hp2]
          rw [p1, p2] at hq
          have E := And.intro @hi1 (And.intro (hintsD_get hh) (And.intro @p1 (@p2)))
          repeat' first | refine R_nil ?_ | ((with_reducible apply tagG); first | refine qg1 ?_ | refine qg2 ?_ | refine qg3 ?_ | refine qg4 ?_ | refine qg5 ?_ | refine qg6 (fun hb => ?_) (fun hb => ?_)) | ((with_reducible apply tagS); first | ((with_reducible apply tagD); first | refine qd1 ?_ | refine qd3 ?_) | ((with_reducible apply tagR); first | refine qr1 ?_ | refine qr3 ?_)) | ((with_reducible apply tagN); first | ((with_reducible apply tagD); first | refine qd2 ?_ | refine qd4 ?_) | ((with_reducible apply tagR); first | refine qr2 ?_ | refine qr4 ?_)) | ((with_reducible apply tagW); first | refine qw1 ?_ | refine qw2 ?_ | refine qw3 ?_ | refine qw4 ?_ | refine qw5 ?_ | refine qw6 (fun hb => ?_) (fun hb => ?_) | refine qw7 ?_ | refine qw8 ?_ | refine qw9 ?_ | refine qw0 ?_) | refine thenQ_n ?_ | refine thenQ_e ?_ | refine thenQ_r ?_ | refine blockQ_n ?_ | refine blockQ_r ?_ | refine blockQ_hit ?_ | refine qb4 ?_ | refine qe ?_ | refine loopQ_e ?_ | refine loopQ_r ?_
          all_goals clear E
          refine loopQ_n (i + 1) (by omega) ⟨by omega, hq⟩ qs
      · have p1 : decide (h.fn = k) = false := by simp [hp1]
        rw [p1, Bool.false_and] at hq
        have E := And.intro @hi1 (And.intro (hintsD_get hh) (@p1))
        repeat' first | refine R_nil ?_ | ((with_reducible apply tagG); first | refine qg1 ?_ | refine qg2 ?_ | refine qg3 ?_ | refine qg4 ?_ | refine qg5 ?_ | refine qg6 (fun hb => ?_) (fun hb => ?_)) | ((with_reducible apply tagS); first | ((with_reducible apply tagD); first | refine qd1 ?_ | refine qd3 ?_) | ((with_reducible apply tagR); first | refine qr1 ?_ | refine qr3 ?_)) | ((with_reducible apply tagN); first | ((with_reducible apply tagD); first | refine qd2 ?_ | refine qd4 ?_) | ((with_reducible apply tagR); first | refine qr2 ?_ | refine qr4 ?_)) | ((with_reducible apply tagW); first | refine qw1 ?_ | refine qw2 ?_ | refine qw3 ?_ | refine qw4 ?_ | refine qw5 ?_ | refine qw6 (fun hb => ?_) (fun hb => ?_) | refine qw7 ?_ | refine qw8 ?_ | refine qw9 ?_ | refine qw0 ?_) | refine thenQ_n ?_ | refine thenQ_e ?_ | refine thenQ_r ?_ | refine blockQ_n ?_ | refine blockQ_r ?_ | refine blockQ_hit ?_ | refine qb4 ?_ | refine qe ?_ | refine loopQ_e ?_ | refine loopQ_r ?_
        all_goals clear E
        refine loopQ_n (i + 1) (by omega) ⟨by omega, hq⟩ qs
    · have hi0 : ¬ (i:Int) < l.length := by omega
      rw [drop_none hil] at hq
      have eD : dirFull c l k j x = (0, 0, false) := by
        simp only [dirFull, if_pos h7, hq, List.find?_nil]
      rw [eD]
      have E := @hi0
      repeat' first | refine R_nil ?_ | ((with_reducible apply tagG); first | refine qg1 ?_ | refine qg2 ?_ | refine qg3 ?_ | refine qg4 ?_ | refine qg5 ?_ | refine qg6 (fun hb => ?_) (fun hb => ?_)) | ((with_reducible apply tagS); first | ((with_reducible apply tagD); first | refine qd1 ?_ | refine qd3 ?_) | ((with_reducible apply tagR); first | refine qr1 ?_ | refine qr3 ?_)) | ((with_reducible apply tagN); first | ((with_reducible apply tagD); first | refine qd2 ?_ | refine qd4 ?_) | ((with_reducible apply tagR); first | refine qr2 ?_ | refine qr4 ?_)) | ((with_reducible apply tagW); first | refine qw1 ?_ | refine qw2 ?_ | refine qw3 ?_ | refine qw4 ?_ | refine qw5 ?_ | refine qw6 (fun hb => ?_) (fun hb => ?_) | refine qw7 ?_ | refine qw8 ?_ | refine qw9 ?_ | refine qw0 ?_) | refine thenQ_n ?_ | refine thenQ_e ?_ | refine thenQ_r ?_ | refine blockQ_n ?_ | refine blockQ_r ?_ | refine blockQ_hit ?_ | refine qb4 ?_ | refine qe ?_ | refine loopQ_e ?_ | refine loopQ_r ?_
      all_goals clear E
      exact finQ_g (G_d []) (ret_a rfl)
  · have e7 : decide (x.op = 7) = false := by simp [h7]
    have eD : dirFull c l k j x = (0, 0, false) := by simp [dirFull, h7]
    rw [eD]
    have E := And.intro @hk1 (And.intro @hj1 (And.intro (fns_get hf) (And.intro (inss_get hx) (@e7))))
    repeat' first | refine R_nil ?_ | ((with_reducible apply tagG); first | refine qg1 ?_ | refine qg2 ?_ | refine qg3 ?_ | refine qg4 ?_ | refine qg5 ?_ | refine qg6 (fun hb => ?_) (fun hb => ?_)) | ((with_reducible apply tagS); first | ((with_reducible apply tagD); first | refine qd1 ?_ | refine qd3 ?_) | ((with_reducible apply tagR); first | refine qr1 ?_ | refine qr3 ?_)) | ((with_reducible apply tagN); first | ((with_reducible apply tagD); first | refine qd2 ?_ | refine qd4 ?_) | ((with_reducible apply tagR); first | refine qr2 ?_ | refine qr4 ?_)) | ((with_reducible apply tagW); first | refine qw1 ?_ | refine qw2 ?_ | refine qw3 ?_ | refine qw4 ?_ | refine qw5 ?_ | refine qw6 (fun hb => ?_) (fun hb => ?_) | refine qw7 ?_ | refine qw8 ?_ | refine qw9 ?_ | refine qw0 ?_) | refine thenQ_n ?_ | refine thenQ_e ?_ | refine thenQ_r ?_ | refine blockQ_n ?_ | refine blockQ_r ?_ | refine blockQ_hit ?_ | refine qb4 ?_ | refine qe ?_ | refine loopQ_e ?_ | refine loopQ_r ?_
    all_goals clear E
    exact finQ_g (G_d []) (ret_a rfl)
end Go.Pw
