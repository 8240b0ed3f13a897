/- Functions of the law: what is believed. -/
import Derived.Test.YtppebcfhhoggiaaQF36
import Derived.Test.YtppebcfhhoggiaaQF42
set_option linter.unusedVariables false
set_option linter.unusedSimpArgs false
namespace Go.Pw
open Go Go.Proofs
attribute [local irreducible] runL W endD thenQ blockQ loopQ
set_option maxRecDepth 8000
set_option maxHeartbeats 16000000
structure Tri where
  a : Int
  b : Int
  c : Int
def Tri.row (x : Tri) : List D := [DI x.a, DI x.b, DI x.c]
def trisD (l : List Tri) : List (List D) := l.map Tri.row
theorem trisD_len (l : List Tri) : (trisD l).length = l.length := by simp [trisD]
theorem trisD_get {l : List Tri} {i : Nat} {x : Tri} (h : l[i]? = some x) : (trisD l).getD i [] = [DI x.a, DI x.b, DI x.c] := by simp [trisD, Tri.row, List.getD, h]
def tagAt (n : Int) : ByteArray :=
  if n = 0 then ⟨#[68]⟩ else if n = 1 then ⟨#[105, 110, 116]⟩ else if n = 2 then ⟨#[69]⟩ else if n = 3 then ⟨#[116, 101, 120, 116]⟩ else ⟨#[110, 111, 110, 101]⟩
def believe (g : List Hint) (x : Tri) : Hint :=
  if 0 < g.length ∧ x.a < 0 then
    match g[((IntKind.u64.wrap x.b).tmod (IntKind.u64.wrap g.length)).toNat]? with
    | some h => ⟨h.fn, h.pc, tagAt ((IntKind.u64.wrap x.c).tmod 5)⟩
    | none => ⟨x.a, x.b, tagAt ((IntKind.u64.wrap x.c).tmod 5)⟩
  else ⟨x.a, x.b, tagAt ((IntKind.u64.wrap x.c).tmod 5)⟩
theorem guessTo_len {c : Cod} (hc : c.Sz) : ∀ k, k ≤ c.funs.length → (guessTo c k).length ≤ k * 1048576
  | 0, _ => by simp [guessTo]
  | k + 1, h => by
    have ih := guessTo_len hc k (by omega)
    obtain ⟨f, hf⟩ := get_ex (show k < c.funs.length by omega)
    have hfl := hc.ins f (List.mem_of_getElem? hf)
    have hg := guessFn_len c k f.ins f.ins.length
    rw [guessTo_succ c k hf, List.length_append, Nat.add_mul]; omega
theorem five (c : Int) : ∃ q : Nat, (IntKind.u64.wrap c).tmod 5 = q ∧ (q : Int) < 5 ∧ List.getD [[DS ⟨#[68]⟩], [DS ⟨#[105, 110, 116]⟩], [DS ⟨#[69]⟩], [DS ⟨#[116, 101, 120, 116]⟩], [DS ⟨#[110, 111, 110, 101]⟩]] q [] = [DS (tagAt q)] := by
  obtain ⟨h1, h2⟩ := u64_bound c
  have h3 := Int.tmod_nonneg 5 h1
  have h4 := Int.tmod_lt_of_pos (IntKind.u64.wrap c) (show (0:Int) < 5 by decide)
  obtain ⟨q, hq⟩ : ∃ q : Nat, (IntKind.u64.wrap c).tmod 5 = q := ⟨((IntKind.u64.wrap c).tmod 5).toNat, by omega⟩
  refine ⟨q, hq, by omega, ?_⟩
  rcases (show q = 0 ∨ q = 1 ∨ q = 2 ∨ q = 3 ∨ q = 4 by omega) with rfl | rfl | rfl | rfl | rfl <;> rfl
theorem C18 (c : Cod) (l : List Tri) (hc : c.Sz) (h0 : codErr c = 0) (hl : Sm l) : C Try.prog 18 [c.av, .d (.sl (trisD l))] [] (.d (.sl (hintsD (l.map (believe (guessOf c)))))) [] [] := by
  have hC15 := C15 c hc h0
  have hgl := guessTo_len hc c.funs.length (Nat.le_refl _)
  have hfl := hc.funs
  rw [show guessTo c c.funs.length = guessOf c from rfl] at hgl
  have hgs : (guessOf c).length ≤ 1099511627776 := Nat.le_trans hgl (by omega)
  generalize guessOf c = g at *
  refine C_intro T_ok (rs := [.tmp 4]) Try.func18 rfl rfl rfl (Nat.le_of_ble_eq_true rfl) (Nat.le_of_ble_eq_true rfl) rfl ⟨rfl, rfl⟩ rfl fun cx hn => ?_
  have hn : cx.n = 71 := hn
  have Y := And.intro T3 (And.intro T4 (And.intro T9 (And.intro T22 (And.intro T23 (And.intro T24 (And.intro T25 (And.intro T26 (And.intro T27 (And.intro T28 (And.intro T30 (And.intro T31 (And.intro T38 (And.intro T40 (And.intro T51 (And.intro T60 (And.intro T61 (And.intro T63 (And.intro T67 (And.intro T75 (And.intro T77 (And.intro T88 (And.intro T90 (T91)))))))))))))))))))))))
  simp only [enumA, enumO, Nat.reduceAdd]
  have E := @trisD_len
  repeat' first | refine R_nil ?_ | ((with_reducible apply tagG); first | refine qg1 ?_ | refine qg2 ?_ | refine qg3 ?_ | refine qg4 ?_ | refine qg5 ?_ | refine qg6 (fun hb => ?_) (fun hb => ?_)) | ((with_reducible apply tagK); first | ((with_reducible apply tagD); first | refine qd5 (hC15) ?_) | ((with_reducible apply tagR); first | refine qr5 (hC15) ?_)) | ((with_reducible apply tagS); first | ((with_reducible apply tagD); first | refine qd1 ?_ | refine qd3 ?_) | ((with_reducible apply tagR); first | refine qr1 ?_ | refine qr3 ?_)) | ((with_reducible apply tagN); first | ((with_reducible apply tagD); first | refine qd2 ?_ | refine qd4 ?_) | ((with_reducible apply tagR); first | refine qr2 ?_ | refine qr4 ?_)) | ((with_reducible apply tagW); first | refine qw1 ?_ | refine qw2 ?_ | refine qw3 ?_ | refine qw4 ?_ | refine qw5 ?_ | refine qw6 (fun hb => ?_) (fun hb => ?_) | refine qw7 ?_ | refine qw8 ?_ | refine qw9 ?_ | refine qw0 ?_) | refine thenQ_n ?_ | refine thenQ_e ?_ | refine thenQ_r ?_ | refine blockQ_n ?_ | refine blockQ_r ?_ | refine blockQ_hit ?_ | refine qb4 ?_ | refine qe ?_ | refine loopQ_e ?_ | refine loopQ_r ?_
  all_goals clear E
  refine W_ghost (G_adopt 5 700 3 rfl rfl (.inr (by decide))) ?_
  refine W_loopQ (fun i : Nat => [(14, dInt i), (13, dInt l.length), (12, .d (.sl (trisD l))), (6, .d (.sl (hintsD g))), (5, .ref 700 0 ((l.take i).map (believe g)).length)]) (fun i => [(700, some (.row 3 (hintsD ((l.take i).map (believe g)))))]) (fun i => l.length - i) (fun i => i ≤ l.length) 0 (by omega) qs fun i hi => ?_
  by_cases hil : i < l.length
  · obtain ⟨x, hx⟩ := get_ex hil
    have hi1 : (i:Int) < l.length := by omega
    have eS : (l.take (i + 1)).map (believe g) = (l.take i).map (believe g) ++ [believe g x] := by
      rw [List.take_add_one, hx, List.map_append]; rfl
    have hA : ((l.take i).map (believe g)).length ≤ 1099511627776 := by rw [List.length_map, List.length_take]; omega
    generalize (l.take i).map (believe g) = A at *
    have e1 := hintsD_take A
    by_cases hb : 0 < g.length ∧ x.a < 0
    · obtain ⟨hg0, hxa⟩ := hb
      have hg1 : (0:Int) < g.length := by omega
      have hu : IntKind.u64.wrap (g.length : Int) = g.length := u64_id (by omega) (by omega)
      have hne : ¬ (g.length : Int) = 0 := by omega
      obtain ⟨u1, u2⟩ := u64_bound x.b
      have v1 := Int.tmod_nonneg (g.length : Int) u1
      have v2 := Int.tmod_lt_of_pos (IntKind.u64.wrap x.b) hg1
      obtain ⟨m, hm⟩ : ∃ m : Nat, (IntKind.u64.wrap x.b).tmod (g.length : Int) = m := ⟨((IntKind.u64.wrap x.b).tmod (g.length : Int)).toNat, by omega⟩
      obtain ⟨h, hh⟩ := get_ex (show m < g.length by omega)
      have hml : (m:Int) < g.length := by omega
      have eB : believe g x = ⟨h.fn, h.pc, tagAt ((IntKind.u64.wrap x.c).tmod 5)⟩ := by
        unfold believe; rw [if_pos ⟨hg0, hxa⟩, hu, hm, Int.toNat_natCast, hh]
      have e2 := hintsD_app A h.fn h.pc (tagAt ((IntKind.u64.wrap x.c).tmod 5))
      rw [eB] at eS
      have n5 : ¬ (5 : Int) = 0 := by decide
      obtain ⟨q, h5, hq5, hT⟩ := five x.c
      rw [h5] at e2 eS
      have E := And.intro @hi1 (And.intro (trisD_get hx) (And.intro @trisD_len (And.intro @hg1 (And.intro @hxa (And.intro @hu (And.intro @hne (And.intro @hm (And.intro @hml (And.intro (hintsD_get hh) (And.intro @h5 (And.intro @hq5 (And.intro @hT (And.intro @n5 (And.intro @e1 (@e2)))))))))))))))
      repeat' first | refine R_nil ?_ | ((with_reducible apply tagG); first | refine qg1 ?_ | refine qg2 ?_ | refine qg3 ?_ | refine qg4 ?_ | refine qg5 ?_ | refine qg6 (fun hb => ?_) (fun hb => ?_)) | ((with_reducible apply tagS); first | ((with_reducible apply tagD); first | refine qd1 ?_ | refine qd3 ?_) | ((with_reducible apply tagR); first | refine qr1 ?_ | refine qr3 ?_)) | ((with_reducible apply tagN); first | ((with_reducible apply tagD); first | refine qd2 ?_ | refine qd4 ?_) | ((with_reducible apply tagR); first | refine qr2 ?_ | refine qr4 ?_)) | ((with_reducible apply tagW); first | refine qw1 ?_ | refine qw2 ?_ | refine qw3 ?_ | refine qw4 ?_ | refine qw5 ?_ | refine qw6 (fun hb => ?_) (fun hb => ?_) | refine qw7 ?_ | refine qw8 ?_ | refine qw9 ?_ | refine qw0 ?_) | refine thenQ_n ?_ | refine thenQ_e ?_ | refine thenQ_r ?_ | refine blockQ_n ?_ | refine blockQ_r ?_ | refine blockQ_hit ?_ | refine qb4 ?_ | refine qe ?_ | refine loopQ_e ?_ | refine loopQ_r ?_
      all_goals clear E
      refine loopQ_n (i + 1) (by omega) (by omega) (by rw [eS]; exact qs)
    · have eB : believe g x = ⟨x.a, x.b, tagAt ((IntKind.u64.wrap x.c).tmod 5)⟩ := by
        unfold believe; rw [if_neg hb]
      have e2 := hintsD_app A x.a x.b (tagAt ((IntKind.u64.wrap x.c).tmod 5))
      rw [eB] at eS
      have n5 : ¬ (5 : Int) = 0 := by decide
      have hq : ¬ (0:Int) < g.length ∨ ((0:Int) < g.length ∧ ¬ x.a < 0) := by
        by_cases h : 0 < g.length
        · exact .inr ⟨by omega, fun h2 => hb ⟨h, h2⟩⟩
        · exact .inl (by omega)
      obtain ⟨q, h5, hq5, hT⟩ := five x.c
      rw [h5] at e2 eS
      rcases hq with hg1 | ⟨hg1, hxa⟩
      · have E := And.intro @hi1 (And.intro (trisD_get hx) (And.intro @trisD_len (And.intro @hg1 (And.intro @h5 (And.intro @hq5 (And.intro @hT (And.intro @n5 (And.intro @e1 (@e2)))))))))
        repeat' first | refine R_nil ?_ | ((with_reducible apply tagG); first | refine qg1 ?_ | refine qg2 ?_ | refine qg3 ?_ | refine qg4 ?_ | refine qg5 ?_ | refine qg6 (fun hb => ?_) (fun hb => ?_)) | ((with_reducible apply tagS); first | ((with_reducible apply tagD); first | refine qd1 ?_ | refine qd3 ?_) | ((with_reducible apply tagR); first | refine qr1 ?_ | refine qr3 ?_)) | ((with_reducible apply tagN); first | ((with_reducible apply tagD); first | refine qd2 ?_ | refine qd4 ?_) | ((with_reducible apply tagR); first | refine qr2 ?_ | refine qr4 ?_)) | ((with_reducible apply tagW); first | refine qw1 ?_ | refine qw2 ?_ | refine qw3 ?_ | refine qw4 ?_ | refine qw5 ?_ | refine qw6 (fun hb => ?_) (fun hb => ?_) | refine qw7 ?_ | refine qw8 ?_ | refine qw9 ?_ | refine qw0 ?_) | refine thenQ_n ?_ | refine thenQ_e ?_ | refine thenQ_r ?_ | refine blockQ_n ?_ | refine blockQ_r ?_ | refine blockQ_hit ?_ | refine qb4 ?_ | refine qe ?_ | refine loopQ_e ?_ | refine loopQ_r ?_
        all_goals clear E
        refine loopQ_n (i + 1) (by omega) (by omega) (by rw [eS]; exact qs)
      · have E := And.intro @hi1 (And.intro (trisD_get hx) (And.intro @trisD_len (And.intro @hg1 (And.intro @hxa (And.intro @h5 (And.intro @hq5 (And.intro @hT (And.intro @n5 (And.intro @e1 (@e2))))))))))
        repeat' first | refine R_nil ?_ | ((with_reducible apply tagG); first | refine qg1 ?_ | refine qg2 ?_ | refine qg3 ?_ | refine qg4 ?_ | refine qg5 ?_ | refine qg6 (fun hb => ?_) (fun hb => ?_)) | ((with_reducible apply tagS); first | ((with_reducible apply tagD); first | refine qd1 ?_ | refine qd3 ?_) | ((with_reducible apply tagR); first | refine qr1 ?_ | refine qr3 ?_)) | ((with_reducible apply tagN); first | ((with_reducible apply tagD); first | refine qd2 ?_ | refine qd4 ?_) | ((with_reducible apply tagR); first | refine qr2 ?_ | refine qr4 ?_)) | ((with_reducible apply tagW); first | refine qw1 ?_ | refine qw2 ?_ | refine qw3 ?_ | refine qw4 ?_ | refine qw5 ?_ | refine qw6 (fun hb => ?_) (fun hb => ?_) | refine qw7 ?_ | refine qw8 ?_ | refine qw9 ?_ | refine qw0 ?_) | refine thenQ_n ?_ | refine thenQ_e ?_ | refine thenQ_r ?_ | refine blockQ_n ?_ | refine blockQ_r ?_ | refine blockQ_hit ?_ | refine qb4 ?_ | refine qe ?_ | refine loopQ_e ?_ | refine loopQ_r ?_
        all_goals clear E
        refine loopQ_n (i + 1) (by omega) (by omega) (by rw [eS]; exact qs)
  · have hi0 : ¬ (i:Int) < l.length := by omega
    have ei : i = l.length := by omega
    subst ei
    rw [List.take_length]
    have e1 := hintsD_take (l.map (believe g))
    have E := @hi0
    repeat' first | refine R_nil ?_ | ((with_reducible apply tagG); first | refine qg1 ?_ | refine qg2 ?_ | refine qg3 ?_ | refine qg4 ?_ | refine qg5 ?_ | refine qg6 (fun hb => ?_) (fun hb => ?_)) | ((with_reducible apply tagS); first | ((with_reducible apply tagD); first | refine qd1 ?_ | refine qd3 ?_) | ((with_reducible apply tagR); first | refine qr1 ?_ | refine qr3 ?_)) | ((with_reducible apply tagN); first | ((with_reducible apply tagD); first | refine qd2 ?_ | refine qd4 ?_) | ((with_reducible apply tagR); first | refine qr2 ?_ | refine qr4 ?_)) | ((with_reducible apply tagW); first | refine qw1 ?_ | refine qw2 ?_ | refine qw3 ?_ | refine qw4 ?_ | refine qw5 ?_ | refine qw6 (fun hb => ?_) (fun hb => ?_) | refine qw7 ?_ | refine qw8 ?_ | refine qw9 ?_ | refine qw0 ?_) | refine thenQ_n ?_ | refine thenQ_e ?_ | refine thenQ_r ?_ | refine blockQ_n ?_ | refine blockQ_r ?_ | refine blockQ_hit ?_ | refine qb4 ?_ | refine qe ?_ | refine loopQ_e ?_ | refine loopQ_r ?_
    all_goals clear E
    exact ret_ref rfl rfl rfl (by rw [List.drop_zero, e1])
end Go.Pw
