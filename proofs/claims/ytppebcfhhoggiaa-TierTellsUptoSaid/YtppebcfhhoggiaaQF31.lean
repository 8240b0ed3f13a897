/- Functions of the reference: names of types, by a map. -/
import Derived.Test.YtppebcfhhoggiaaQF30
set_option linter.unusedVariables false
set_option linter.unusedSimpArgs false
namespace Go.Pw
open Go Go.Proofs
attribute [local irreducible] runL W endD thenQ blockQ loopQ
set_option maxRecDepth 8000
set_option maxHeartbeats 16000000
def Has (es : Array MapEntry) (l : List ByteArray) : Prop := (∀ e ∈ es.toList, ∃ s, e.key = .string s ∧ e.val = .bool true) ∧ ∀ s, s ∈ l ↔ ∃ e ∈ es.toList, e.key = .string s
theorem beq_dec (s t : ByteArray) : (s == t) = decide (s = t) := by rw [beq_toListBytes, toList_inj]
theorem find_str (s : ByteArray) : ∀ (es : List MapEntry) (i : Nat), (∀ e ∈ es, ∃ s, e.key = .string s ∧ e.val = .bool true) →
    (Instr.findNow .string (.string s) es i = some none ∧ ∀ e ∈ es, e.key ≠ .string s) ∨ ∃ k e, Instr.findNow .string (.string s) es i = some (some (i + k, .bool true)) ∧ es[k]? = some e ∧ e.key = .string s
  | [], i, _ => .inl ⟨rfl, by simp⟩
  | e :: es, i, h => by
    obtain ⟨t, h1, h2⟩ := h e (by simp)
    have hs : Instr.sameNow .string (.string s) e.key = some (s == t) := by rw [h1]; rfl
    simp only [Instr.findNow, hs]
    rw [beq_dec]
    by_cases hst : s = t
    · subst hst
      refine .inr ⟨0, e, ?_, rfl, h1⟩
      simp [h2]
    · have hf : decide (s = t) = false := by simpa using hst
      rw [hf]
      rcases find_str s es (i + 1) (fun e he => h e (List.mem_cons_of_mem _ he)) with ⟨g1, g2⟩ | ⟨k, e', g1, g2, g3⟩
      · refine .inl ⟨g1, fun e' he' => ?_⟩
        rcases List.mem_cons.1 he' with rfl | he'
        · rw [h1]; intro hh; exact hst (by injection hh with hh; exact hh.symm)
        · exact g2 e' he'
      · exact .inr ⟨k + 1, e', by dsimp only; rw [g1]; congr 3; omega, g2, g3⟩
theorem any_mem_t {l : List ByteArray} {s : ByteArray} (h : s ∈ l) : (l.any fun y => decide (s = y)) = true := List.any_eq_true.2 ⟨s, h, by simp⟩
theorem any_mem_f {l : List ByteArray} {s : ByteArray} (h : ¬ s ∈ l) : (l.any fun y => decide (s = y)) = false := List.any_eq_false.2 fun y hy => by simp; rintro rfl; exact h hy
theorem has_get {es : Array MapEntry} {l : List ByteArray} (h : Has es l) (s : ByteArray) : ∃ b, mapGet .string (.string s) es (.bool false) = some (.bool (l.any fun y => decide (s = y)), b) := by
  unfold mapGet
  rcases find_str s es.toList 0 h.1 with ⟨g1, g2⟩ | ⟨k, e, g1, g2, g3⟩
  · rw [g1]
    have : ¬ s ∈ l := fun hs => by obtain ⟨e, he, hk⟩ := (h.2 s).1 hs; exact g2 e he hk
    exact ⟨false, by rw [any_mem_f this]⟩
  · rw [g1]
    have : s ∈ l := (h.2 s).2 ⟨e, List.mem_of_getElem? g2, g3⟩
    exact ⟨true, by rw [any_mem_t this]⟩
theorem sameBits_str (n : Nat) (s : ByteArray) : Instr.sameBits n (.string s) (.string s) = true := by
  cases n <;> simp [Instr.sameBits, beq_dec]
theorem has_put {es : Array MapEntry} {l : List ByteArray} (h : Has es l) (s : ByteArray) (c : Nat) : ∃ es' c', mapPut .string (.string s) (.bool true) es c = some (es', c') ∧ Has es' (l ++ [s]) := by
  unfold mapPut
  rcases find_str s es.toList 0 h.1 with ⟨g1, g2⟩ | ⟨k, e, g1, g2, g3⟩
  · rw [g1]
    refine ⟨_, _, rfl, fun e he => ?_, fun t => ?_⟩
    · simp only [Array.toList_push, List.mem_append, List.mem_singleton] at he
      rcases he with he | rfl
      · exact h.1 e he
      · exact ⟨s, rfl, rfl⟩
    · simp only [Array.toList_push, List.mem_append, List.mem_singleton, h.2 t]
      constructor
      · rintro (⟨e, he, hk⟩ | rfl)
        · exact ⟨e, .inl he, hk⟩
        · exact ⟨_, .inr rfl, rfl⟩
      · rintro ⟨e, he | rfl, hk⟩
        · exact .inl ⟨e, he, hk⟩
        · exact .inr (by injection hk with hk; exact hk.symm)
  · rw [g1, Nat.zero_add]
    have hk : (es[k]?).map (·.key) = some (.string s) := by
      rw [← Array.getElem?_toList, g2, Option.map_some, g3]
    dsimp only
    rw [hk, Option.getD_some, sameBits_str, if_pos rfl]
    have hmod : (es.modify k fun e => { e with key := .string s, val := .bool true }).toList = es.toList.set k { e with key := .string s, val := .bool true } := by
      rw [Array.toList_modify]
      apply List.ext_getElem?
      intro j
      have hl := (List.getElem?_eq_some_iff.1 g2).1
      rw [List.getElem?_modify, List.getElem?_set]
      by_cases hj : k = j
      · subst hj; rw [g2]; simp; simpa using hl
      · simp [hj]
    have hlt := (List.getElem?_eq_some_iff.1 g2).1
    refine ⟨_, _, rfl, fun e' he' => ?_, fun t => ?_⟩
    · rw [hmod] at he'
      rcases List.mem_or_eq_of_mem_set he' with h1 | rfl
      · exact h.1 e' h1
      · exact ⟨s, rfl, rfl⟩
    · have hsl : s ∈ l := (h.2 s).2 ⟨e, List.mem_of_getElem? g2, g3⟩
      have e1 : t ∈ l ++ [s] ↔ t ∈ l := by
        simp only [List.mem_append, List.mem_singleton, or_iff_left_iff_imp]; rintro rfl; exact hsl
      rw [e1, h.2 t, hmod]
      constructor
      · rintro ⟨e', he', hk'⟩
        obtain ⟨j, hj⟩ := List.getElem?_of_mem he'
        by_cases hjk : j = k
        · subst hjk
          rw [g2] at hj; cases hj
          exact ⟨_, List.mem_set hlt _, by rw [g3] at hk'; exact hk'⟩
        · exact ⟨e', List.mem_of_getElem? (by rw [List.getElem?_set_ne (Ne.symm hjk)]; exact hj), hk'⟩
      · rintro ⟨e', he', hk'⟩
        rcases List.mem_or_eq_of_mem_set he' with h1 | rfl
        · exact ⟨e', h1, hk'⟩
        · exact ⟨e, List.mem_of_getElem? g2, by rw [g3]; exact hk'⟩
theorem has_nil : Has #[] [] := ⟨by simp, by simp⟩
theorem C7 (c : Cod) (hc : c.Ok) (hz : c.texts.length + c.impls.length ≤ 1099511627776) : C Try.prog 7 [c.av] [] c.named.av [] [] := by
  have hct := hc.texts
  have hci := hc.impls
  refine C_intro T_ok (rs := [.cell 2 30]) Try.func7 rfl rfl rfl (Nat.le_of_ble_eq_true rfl) (Nat.le_of_ble_eq_true rfl) rfl ⟨rfl, rfl⟩ rfl fun cx hn => ?_
  have hn : cx.n = 48 := hn
  have Y := And.intro T3 (And.intro T4 (And.intro T9 (And.intro T22 (And.intro T23 (And.intro T24 (And.intro T25 (And.intro T26 (And.intro T27 (And.intro T28 (And.intro T30 (And.intro T38 (And.intro T40 (And.intro T60 (And.intro T61 (And.intro T63 (And.intro T67 (And.intro T69 (And.intro T75 (T77)))))))))))))))))))
  simp only [enumA, enumO, Nat.reduceAdd]
  repeat' first | refine R_nil ?_ | ((with_reducible apply tagG); first | refine qg1 ?_ | refine qg2 ?_ | refine qg3 ?_ | refine qg4 ?_ | refine qg5 ?_ | refine qg6 (fun hb => ?_) (fun hb => ?_)) | ((with_reducible apply tagS); first | ((with_reducible apply tagD); first | refine qd1 ?_ | refine qd3 ?_) | ((with_reducible apply tagR); first | refine qr1 ?_ | refine qr3 ?_)) | ((with_reducible apply tagN); first | ((with_reducible apply tagD); first | refine qd2 ?_ | refine qd4 ?_) | ((with_reducible apply tagR); first | refine qr2 ?_ | refine qr4 ?_)) | ((with_reducible apply tagW); first | refine qw1 ?_ | refine qw2 ?_ | refine qw3 ?_ | refine qw4 ?_ | refine qw5 ?_ | refine qw6 (fun hb => ?_) (fun hb => ?_) | refine qw7 ?_ | refine qw8 ?_ | refine qw9 ?_ | refine qw0 ?_) | refine thenQ_n ?_ | refine thenQ_e ?_ | refine thenQ_r ?_ | refine blockQ_n ?_ | refine blockQ_r ?_ | refine blockQ_hit ?_ | refine qb4 ?_ | refine qe ?_ | refine loopQ_e ?_ | refine loopQ_r ?_
  refine W_ghost (G_adopt 4 22 1 rfl rfl (.inr (by decide))) ?_
  refine W_loopQ (α := Nat × Array MapEntry × Nat) (fun x => [(13, dInt x.1), (12, dInt c.texts.length), (11, .d (.sl (strs c.texts))), (4, .ref 22 0 (c.texts.take x.1).length), (3, .mp 9), (1, .ptr 1 0 0), (2, .ptr 2 0 0)]) (fun x => [(9, some (.raw (.map x.2.1 x.2.2))), (22, some (.row 1 (strs (c.texts.take x.1)))), (1, some (.box c.cells)), (2, some (.box [.full [], .full [], .full [], .full [], .full [], .full [], .full []]))]) (fun x => c.texts.length - x.1) (fun x => x.1 ≤ c.texts.length ∧ Has x.2.1 (c.texts.take x.1)) (0, #[], 0) ⟨by simp, has_nil⟩ qs fun ⟨k, es, n⟩ ⟨hk, hes⟩ => ?_
  dsimp only at hk hes ⊢
  by_cases h : k < c.texts.length
  · obtain ⟨x, hx⟩ := get_ex h
    have h1 : (k:Int) < c.texts.length := by omega
    have e3 : c.texts.take (k + 1) = c.texts.take k ++ [x] := by rw [List.take_add_one, hx]; rfl
    obtain ⟨es', n', hp, hh⟩ := has_put hes x n
    rw [← e3] at hh
    have hAl : (c.texts.take k).length ≤ 1099511627776 := by rw [List.length_take]; omega
    generalize c.texts.take k = A at *
    have e1 := strs_take A
    have e2 := strs_app A x
    have E := And.intro @h1 (And.intro (strs_get hx) (And.intro @e1 (And.intro @e2 (@hp))))
    repeat' first | refine R_nil ?_ | ((with_reducible apply tagG); first | refine qg1 ?_ | refine qg2 ?_ | refine qg3 ?_ | refine qg4 ?_ | refine qg5 ?_ | refine qg6 (fun hb => ?_) (fun hb => ?_)) | ((with_reducible apply tagS); first | ((with_reducible apply tagD); first | refine qd1 ?_ | refine qd3 ?_) | ((with_reducible apply tagR); first | refine qr1 ?_ | refine qr3 ?_)) | ((with_reducible apply tagN); first | ((with_reducible apply tagD); first | refine qd2 ?_ | refine qd4 ?_) | ((with_reducible apply tagR); first | refine qr2 ?_ | refine qr4 ?_)) | ((with_reducible apply tagW); first | refine qw1 ?_ | refine qw2 ?_ | refine qw3 ?_ | refine qw4 ?_ | refine qw5 ?_ | refine qw6 (fun hb => ?_) (fun hb => ?_) | refine qw7 ?_ | refine qw8 ?_ | refine qw9 ?_ | refine qw0 ?_) | refine thenQ_n ?_ | refine thenQ_e ?_ | refine thenQ_r ?_ | refine blockQ_n ?_ | refine blockQ_r ?_ | refine blockQ_hit ?_ | refine qb4 ?_ | refine qe ?_ | refine loopQ_e ?_ | refine loopQ_r ?_
    all_goals clear E
    refine loopQ_n (k + 1, es', n') (by dsimp only; omega) ⟨by dsimp only; omega, hh⟩ (by dsimp only; rw [e3]; exact qs)
  have h1 : ¬ (k:Int) < c.texts.length := by omega
  rw [List.take_of_length_le (by omega)] at hes ⊢
  have E := @h1
  repeat' first | refine R_nil ?_ | ((with_reducible apply tagG); first | refine qg1 ?_ | refine qg2 ?_ | refine qg3 ?_ | refine qg4 ?_ | refine qg5 ?_ | refine qg6 (fun hb => ?_) (fun hb => ?_)) | ((with_reducible apply tagS); first | ((with_reducible apply tagD); first | refine qd1 ?_ | refine qd3 ?_) | ((with_reducible apply tagR); first | refine qr1 ?_ | refine qr3 ?_)) | ((with_reducible apply tagN); first | ((with_reducible apply tagD); first | refine qd2 ?_ | refine qd4 ?_) | ((with_reducible apply tagR); first | refine qr2 ?_ | refine qr4 ?_)) | ((with_reducible apply tagW); first | refine qw1 ?_ | refine qw2 ?_ | refine qw3 ?_ | refine qw4 ?_ | refine qw5 ?_ | refine qw6 (fun hb => ?_) (fun hb => ?_) | refine qw7 ?_ | refine qw8 ?_ | refine qw9 ?_ | refine qw0 ?_) | refine thenQ_n ?_ | refine thenQ_e ?_ | refine thenQ_r ?_ | refine blockQ_n ?_ | refine blockQ_r ?_ | refine blockQ_hit ?_ | refine qb4 ?_ | refine qe ?_ | refine loopQ_e ?_ | refine loopQ_r ?_
  all_goals clear E
  refine W_loopQ (α := Nat × List ByteArray × Array MapEntry × Nat) (fun x => [(27, dInt x.1), (26, dInt c.impls.length), (25, .d (.sl (implsD c.impls))), (4, .ref 22 0 x.2.1.length), (3, .mp 9), (1, .ptr 1 0 0), (2, .ptr 2 0 0)]) (fun x => [(9, some (.raw (.map x.2.2.1 x.2.2.2))), (22, some (.row 1 (strs x.2.1))), (1, some (.box c.cells)), (2, some (.box [.full [], .full [], .full [], .full [], .full [], .full [], .full []]))]) (fun x => c.impls.length - x.1) (fun x => x.1 ≤ c.impls.length ∧ x.2.1.length ≤ c.texts.length + x.1 ∧ Has x.2.2.1 x.2.1 ∧ addNames c.texts c.impls = addNames x.2.1 (c.impls.drop x.1)) (0, c.texts, es, n) ⟨by simp, by simp, hes, rfl⟩ qs fun ⟨k, L, es, n⟩ ⟨hk, hL, hes, he⟩ => ?_
  dsimp only at hk hL hes he ⊢
  have e1 := strs_take L
  by_cases h : k < c.impls.length
  · obtain ⟨x, hx⟩ := get_ex h
    have h1 : (k:Int) < c.impls.length := by omega
    have e2 := strs_app L x.for_
    obtain ⟨gb, hg⟩ := has_get hes x.for_
    obtain ⟨es', n', hp, hh⟩ := has_put hes x.for_ n
    rw [drop_some hx, addNames] at he
    cases ha : (L.any fun y => decide (x.for_ = y)) with
    | true =>
      rw [ha] at hg
      rw [ha, if_pos rfl] at he
      have E := And.intro @h1 (And.intro (implsD_get hx) (And.intro @e1 (@hg)))
      repeat' first | refine R_nil ?_ | ((with_reducible apply tagG); first | refine qg1 ?_ | refine qg2 ?_ | refine qg3 ?_ | refine qg4 ?_ | refine qg5 ?_ | refine qg6 (fun hb => ?_) (fun hb => ?_)) | ((with_reducible apply tagS); first | ((with_reducible apply tagD); first | refine qd1 ?_ | refine qd3 ?_) | ((with_reducible apply tagR); first | refine qr1 ?_ | refine qr3 ?_)) | ((with_reducible apply tagN); first | ((with_reducible apply tagD); first | refine qd2 ?_ | refine qd4 ?_) | ((with_reducible apply tagR); first | refine qr2 ?_ | refine qr4 ?_)) | ((with_reducible apply tagW); first | refine qw1 ?_ | refine qw2 ?_ | refine qw3 ?_ | refine qw4 ?_ | refine qw5 ?_ | refine qw6 (fun hb => ?_) (fun hb => ?_) | refine qw7 ?_ | refine qw8 ?_ | refine qw9 ?_ | refine qw0 ?_) | refine thenQ_n ?_ | refine thenQ_e ?_ | refine thenQ_r ?_ | refine blockQ_n ?_ | refine blockQ_r ?_ | refine blockQ_hit ?_ | refine qb4 ?_ | refine qe ?_ | refine loopQ_e ?_ | refine loopQ_r ?_
      all_goals clear E
      refine loopQ_n (k + 1, L, es, n) (by dsimp only; omega) ⟨by dsimp only; omega, by dsimp only; omega, hes, he⟩ (by dsimp only; exact qs)
    | false =>
      rw [ha] at hg
      rw [ha, if_neg (by simp)] at he
      have E := And.intro @h1 (And.intro (implsD_get hx) (And.intro @e1 (And.intro @e2 (And.intro @hg (@hp)))))
      repeat' first | refine R_nil ?_ | ((with_reducible apply tagG); first | refine qg1 ?_ | refine qg2 ?_ | refine qg3 ?_ | refine qg4 ?_ | refine qg5 ?_ | refine qg6 (fun hb => ?_) (fun hb => ?_)) | ((with_reducible apply tagS); first | ((with_reducible apply tagD); first | refine qd1 ?_ | refine qd3 ?_) | ((with_reducible apply tagR); first | refine qr1 ?_ | refine qr3 ?_)) | ((with_reducible apply tagN); first | ((with_reducible apply tagD); first | refine qd2 ?_ | refine qd4 ?_) | ((with_reducible apply tagR); first | refine qr2 ?_ | refine qr4 ?_)) | ((with_reducible apply tagW); first | refine qw1 ?_ | refine qw2 ?_ | refine qw3 ?_ | refine qw4 ?_ | refine qw5 ?_ | refine qw6 (fun hb => ?_) (fun hb => ?_) | refine qw7 ?_ | refine qw8 ?_ | refine qw9 ?_ | refine qw0 ?_) | refine thenQ_n ?_ | refine thenQ_e ?_ | refine thenQ_r ?_ | refine blockQ_n ?_ | refine blockQ_r ?_ | refine blockQ_hit ?_ | refine qb4 ?_ | refine qe ?_ | refine loopQ_e ?_ | refine loopQ_r ?_
      all_goals clear E
      refine loopQ_n (k + 1, L ++ [x.for_], es', n') (by dsimp only; omega) ⟨by dsimp only; omega, by simp; omega, hh, he⟩ (by dsimp only; exact qs)
  · have h1 : ¬ (k:Int) < c.impls.length := by omega
    rw [drop_none h, addNames] at he
    have E := @h1
    repeat' first | refine R_nil ?_ | ((with_reducible apply tagG); first | refine qg1 ?_ | refine qg2 ?_ | refine qg3 ?_ | refine qg4 ?_ | refine qg5 ?_ | refine qg6 (fun hb => ?_) (fun hb => ?_)) | ((with_reducible apply tagS); first | ((with_reducible apply tagD); first | refine qd1 ?_ | refine qd3 ?_) | ((with_reducible apply tagR); first | refine qr1 ?_ | refine qr3 ?_)) | ((with_reducible apply tagN); first | ((with_reducible apply tagD); first | refine qd2 ?_ | refine qd4 ?_) | ((with_reducible apply tagR); first | refine qr2 ?_ | refine qr4 ?_)) | ((with_reducible apply tagW); first | refine qw1 ?_ | refine qw2 ?_ | refine qw3 ?_ | refine qw4 ?_ | refine qw5 ?_ | refine qw6 (fun hb => ?_) (fun hb => ?_) | refine qw7 ?_ | refine qw8 ?_ | refine qw9 ?_ | refine qw0 ?_) | refine thenQ_n ?_ | refine thenQ_e ?_ | refine thenQ_r ?_ | refine blockQ_n ?_ | refine blockQ_r ?_ | refine blockQ_hit ?_ | refine qb4 ?_ | refine qe ?_ | refine loopQ_e ?_ | refine loopQ_r ?_
    all_goals clear E
    have E := e1
    rw [show c.named = ⟨L, c.nums, c.funs, c.actors, c.impls, c.makers, c.pats⟩ by unfold Cod.named; rw [he]]
    exact finQ_g (G_d [22]) (ret_a rfl)
end Go.Pw
