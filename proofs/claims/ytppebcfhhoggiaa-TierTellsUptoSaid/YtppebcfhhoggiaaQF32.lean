/- Functions of the reference: what an instruction reads; names that a pattern binds. -/
import Derived.Test.YtppebcfhhoggiaaQF29
import Derived.Test.YtppebcfhhoggiaaQF7
set_option linter.unusedVariables false
set_option linter.unusedSimpArgs false
namespace Go.Pw
open Go Go.Proofs
attribute [local irreducible] runL W endD thenQ blockQ loopQ
set_option maxRecDepth 8000
set_option maxHeartbeats 16000000
def readsCh (op : Int) : List Nat :=
  if op = 2 ∨ op = 20 ∨ op = 21 then [98]
  else if op = 5 ∨ op = 6 ∨ op = 7 ∨ op = 8 ∨ op = 10 ∨ op = 12 ∨ op = 15 then [42]
  else if op = 9 then [98, 42]
  else if op = 13 ∨ op = 22 then [97, 98]
  else if op = 4 ∨ op = 11 ∨ op = 18 ∨ op = 19 ∨ op = 23 ∨ op = 24 ∨ op = 25 ∨ op = 26 ∨ op = 27 then [97]
  else []
def chOut (i : Ins) (c : Nat) : List Int := if c = 97 then [i.a] else if c = 98 then [i.b] else i.args
theorem reads_ch (i : Ins) : (readsCh i.op).flatMap (chOut i) = readsOf i := by
  unfold readsCh readsOf
  repeat' split
  all_goals first | rfl | (simp [chOut]; done) | (exfalso; omega)
structure Txt (b : ByteArray) (l : List Nat) : Prop where
  size : b.size = l.length
  dec : ∀ (k c : Nat), l[k]? = some c → Utf8.decode b k = (c, 1)
theorem txt_reads (op : Int) : Txt (readsStr op) (readsCh op) := by
  have t0 : Txt ByteArray.empty [] := ⟨rfl, fun k c h => by simp at h⟩
  have t1 : Txt ⟨#[98]⟩ [98] := ⟨rfl, fun k c h => by match k with | 0 => cases h; rfl | k + 1 => simp at h⟩
  have t2 : Txt ⟨#[42]⟩ [42] := ⟨rfl, fun k c h => by match k with | 0 => cases h; rfl | k + 1 => simp at h⟩
  have t3 : Txt ⟨#[98, 42]⟩ [98, 42] := ⟨rfl, fun k c h => by match k with | 0 => cases h; rfl | 1 => cases h; rfl | k + 2 => simp at h⟩
  have t4 : Txt ⟨#[97, 98]⟩ [97, 98] := ⟨rfl, fun k c h => by match k with | 0 => cases h; rfl | 1 => cases h; rfl | k + 2 => simp at h⟩
  have t5 : Txt ⟨#[97]⟩ [97] := ⟨rfl, fun k c h => by match k with | 0 => cases h; rfl | k + 1 => simp at h⟩
  unfold readsStr readsCh
  repeat' split
  all_goals assumption
theorem readsCh_len (op : Int) : (readsCh op).length ≤ 2 := by
  unfold readsCh
  repeat' split
  all_goals simp
theorem chOut_len (i : Ins) (c : Nat) : (chOut i c).length ≤ i.args.length + 1 := by
  unfold chOut
  repeat' split
  all_goals simp
theorem C55 (i : Ins) (hs : Sm i.args) : C Try.prog 55 [i.av] [] (.ref 2000 0 (readsOf i).length) [] [.row 1 (ints (readsOf i))] := by
  rw [← reads_ch i]
  have hC := C56 i.op
  obtain ⟨hsz, hdec⟩ := txt_reads i.op
  have hl2 := readsCh_len i.op
  generalize readsStr i.op = b at *
  generalize readsCh i.op = l at *
  refine C_intro T_ok (rs := [.tmp 2]) Try.func55 rfl rfl rfl (Nat.le_of_ble_eq_true rfl) (Nat.le_of_ble_eq_true rfl) rfl ⟨rfl, rfl⟩ rfl fun cx hn => ?_
  have hn : cx.n = 34 := hn
  have Y := And.intro T3 (And.intro T4 (And.intro T9 (And.intro T21 (And.intro T23 (And.intro T60 (T108))))))
  simp only [enumA, enumO, Nat.reduceAdd]
  repeat' first | refine R_nil ?_ | ((with_reducible apply tagG); first | refine qg1 ?_ | refine qg2 ?_ | refine qg3 ?_ | refine qg4 ?_ | refine qg5 ?_ | refine qg6 (fun hb => ?_) (fun hb => ?_)) | ((with_reducible apply tagK); first | ((with_reducible apply tagD); first | refine qd5 (hC) ?_) | ((with_reducible apply tagR); first | refine qr5 (hC) ?_)) | ((with_reducible apply tagS); first | ((with_reducible apply tagD); first | refine qd1 ?_ | refine qd3 ?_) | ((with_reducible apply tagR); first | refine qr1 ?_ | refine qr3 ?_)) | ((with_reducible apply tagN); first | ((with_reducible apply tagD); first | refine qd2 ?_ | refine qd4 ?_) | ((with_reducible apply tagR); first | refine qr2 ?_ | refine qr4 ?_)) | ((with_reducible apply tagW); first | refine qw1 ?_ | refine qw2 ?_ | refine qw3 ?_ | refine qw4 ?_ | refine qw5 ?_ | refine qw6 (fun hb => ?_) (fun hb => ?_) | refine qw7 ?_ | refine qw8 ?_ | refine qw9 ?_ | refine qw0 ?_) | refine thenQ_n ?_ | refine thenQ_e ?_ | refine thenQ_r ?_ | refine blockQ_n ?_ | refine blockQ_r ?_ | refine blockQ_hit ?_ | refine qb4 ?_ | refine qe ?_ | refine loopQ_e ?_ | refine loopQ_r ?_
  refine W_ghost (G_adopt 3 25 1 rfl rfl (.inr (by decide))) ?_
  refine W_loopQ (fun k : Nat => [(10, .ptr 10 0 0), (3, .ref 25 0 ((l.take k).flatMap (chOut i)).length), (1, .ptr 1 0 0)]) (fun k => [(10, some (.raw (.stringIter b k))), (25, some (.row 1 (ints ((l.take k).flatMap (chOut i))))), (1, some (.box i.cells))]) (fun k => l.length - k) (fun k => k ≤ l.length ∧ ((l.take k).flatMap (chOut i)).length ≤ k * (i.args.length + 1)) 0 ⟨by omega, by simp⟩ qs fun k ⟨hk, hle⟩ => ?_
  have hle2 : k * (i.args.length + 1) ≤ 2 * (i.args.length + 1) := Nat.mul_le_mul_right _ (by omega)
  by_cases h : k < l.length
  · obtain ⟨x, hx⟩ := get_ex h
    have h1 : k < b.size := by omega
    have hd := hdec k x hx
    have e3 : (l.take (k + 1)).flatMap (chOut i) = (l.take k).flatMap (chOut i) ++ chOut i x := by rw [List.take_add_one, hx]; simp
    have hle3 : ((l.take (k + 1)).flatMap (chOut i)).length ≤ (k + 1) * (i.args.length + 1) := by
      rw [e3, List.length_append, Nat.add_mul]
      have := chOut_len i x; omega
    generalize (l.take k).flatMap (chOut i) = A at *
    have e1 : (ints A).take A.length = ints A := take_all _ _ (by omega)
    by_cases h97 : x = 97
    · subst h97
      have e2 : ints A ++ [[DI i.a]] = ints (A ++ [i.a]) := by simp [ints]
      have n97 : decide (((97 : Nat) : Int) = 97) = true := rfl
      have E := And.intro @h1 (And.intro @hd (And.intro @e1 (And.intro @e2 (@n97))))
      repeat' first | refine R_nil ?_ | ((with_reducible apply tagG); first | refine qg1 ?_ | refine qg2 ?_ | refine qg3 ?_ | refine qg4 ?_ | refine qg5 ?_ | refine qg6 (fun hb => ?_) (fun hb => ?_)) | ((with_reducible apply tagS); first | ((with_reducible apply tagD); first | refine qd1 ?_ | refine qd3 ?_) | ((with_reducible apply tagR); first | refine qr1 ?_ | refine qr3 ?_)) | ((with_reducible apply tagN); first | ((with_reducible apply tagD); first | refine qd2 ?_ | refine qd4 ?_) | ((with_reducible apply tagR); first | refine qr2 ?_ | refine qr4 ?_)) | ((with_reducible apply tagW); first | refine qw1 ?_ | refine qw2 ?_ | refine qw3 ?_ | refine qw4 ?_ | refine qw5 ?_ | refine qw6 (fun hb => ?_) (fun hb => ?_) | refine qw7 ?_ | refine qw8 ?_ | refine qw9 ?_ | refine qw0 ?_) | refine thenQ_n ?_ | refine thenQ_e ?_ | refine thenQ_r ?_ | refine blockQ_n ?_ | refine blockQ_r ?_ | refine blockQ_hit ?_ | refine qb4 ?_ | refine qe ?_ | refine loopQ_e ?_ | refine loopQ_r ?_
      all_goals clear E
      refine loopQ_n (k + 1) (by omega) ⟨by omega, hle3⟩ (by rw [e3]; exact qs)
    · by_cases h98 : x = 98
      · subst h98
        have e2 : ints A ++ [[DI i.b]] = ints (A ++ [i.b]) := by simp [ints]
        have n97 : decide (((98 : Nat) : Int) = 97) = false := rfl
        have n98 : decide (((98 : Nat) : Int) = 98) = true := rfl
        have E := And.intro @h1 (And.intro @hd (And.intro @e1 (And.intro @e2 (And.intro @n97 (@n98)))))
        repeat' first | refine R_nil ?_ | ((with_reducible apply tagG); first | refine qg1 ?_ | refine qg2 ?_ | refine qg3 ?_ | refine qg4 ?_ | refine qg5 ?_ | refine qg6 (fun hb => ?_) (fun hb => ?_)) | ((with_reducible apply tagS); first | ((with_reducible apply tagD); first | refine qd1 ?_ | refine qd3 ?_) | ((with_reducible apply tagR); first | refine qr1 ?_ | refine qr3 ?_)) | ((with_reducible apply tagN); first | ((with_reducible apply tagD); first | refine qd2 ?_ | refine qd4 ?_) | ((with_reducible apply tagR); first | refine qr2 ?_ | refine qr4 ?_)) | ((with_reducible apply tagW); first | refine qw1 ?_ | refine qw2 ?_ | refine qw3 ?_ | refine qw4 ?_ | refine qw5 ?_ | refine qw6 (fun hb => ?_) (fun hb => ?_) | refine qw7 ?_ | refine qw8 ?_ | refine qw9 ?_ | refine qw0 ?_) | refine thenQ_n ?_ | refine thenQ_e ?_ | refine thenQ_r ?_ | refine blockQ_n ?_ | refine blockQ_r ?_ | refine blockQ_hit ?_ | refine qb4 ?_ | refine qe ?_ | refine loopQ_e ?_ | refine loopQ_r ?_
        all_goals clear E
        refine loopQ_n (k + 1) (by omega) ⟨by omega, hle3⟩ (by rw [e3]; exact qs)
      · have e2 : ints A ++ ints i.args = ints (A ++ i.args) := by simp [ints]
        have n97 : decide ((x : Int) = 97) = false := by rw [decide_eq_false_iff_not]; omega
        have n98 : decide ((x : Int) = 98) = false := by rw [decide_eq_false_iff_not]; omega
        have ec : chOut i x = i.args := by simp [chOut, h97, h98]
        have E := And.intro @h1 (And.intro @hd (And.intro @e1 (And.intro @e2 (And.intro @n97 (@n98)))))
        repeat' first | refine R_nil ?_ | ((with_reducible apply tagG); first | refine qg1 ?_ | refine qg2 ?_ | refine qg3 ?_ | refine qg4 ?_ | refine qg5 ?_ | refine qg6 (fun hb => ?_) (fun hb => ?_)) | ((with_reducible apply tagS); first | ((with_reducible apply tagD); first | refine qd1 ?_ | refine qd3 ?_) | ((with_reducible apply tagR); first | refine qr1 ?_ | refine qr3 ?_)) | ((with_reducible apply tagN); first | ((with_reducible apply tagD); first | refine qd2 ?_ | refine qd4 ?_) | ((with_reducible apply tagR); first | refine qr2 ?_ | refine qr4 ?_)) | ((with_reducible apply tagW); first | refine qw1 ?_ | refine qw2 ?_ | refine qw3 ?_ | refine qw4 ?_ | refine qw5 ?_ | refine qw6 (fun hb => ?_) (fun hb => ?_) | refine qw7 ?_ | refine qw8 ?_ | refine qw9 ?_ | refine qw0 ?_) | refine thenQ_n ?_ | refine thenQ_e ?_ | refine thenQ_r ?_ | refine blockQ_n ?_ | refine blockQ_r ?_ | refine blockQ_hit ?_ | refine qb4 ?_ | refine qe ?_ | refine loopQ_e ?_ | refine loopQ_r ?_
        all_goals clear E
        refine loopQ_n (k + 1) (by omega) ⟨by omega, hle3⟩ (by rw [e3, ec]; exact qs)
  · have h1 : ¬ k < b.size := by omega
    have e1 : l.take k = l := List.take_of_length_le (by omega)
    have E := @h1
    repeat' first | refine R_nil ?_ | ((with_reducible apply tagG); first | refine qg1 ?_ | refine qg2 ?_ | refine qg3 ?_ | refine qg4 ?_ | refine qg5 ?_ | refine qg6 (fun hb => ?_) (fun hb => ?_)) | ((with_reducible apply tagS); first | ((with_reducible apply tagD); first | refine qd1 ?_ | refine qd3 ?_) | ((with_reducible apply tagR); first | refine qr1 ?_ | refine qr3 ?_)) | ((with_reducible apply tagN); first | ((with_reducible apply tagD); first | refine qd2 ?_ | refine qd4 ?_) | ((with_reducible apply tagR); first | refine qr2 ?_ | refine qr4 ?_)) | ((with_reducible apply tagW); first | refine qw1 ?_ | refine qw2 ?_ | refine qw3 ?_ | refine qw4 ?_ | refine qw5 ?_ | refine qw6 (fun hb => ?_) (fun hb => ?_) | refine qw7 ?_ | refine qw8 ?_ | refine qw9 ?_ | refine qw0 ?_) | refine thenQ_n ?_ | refine thenQ_e ?_ | refine thenQ_r ?_ | refine blockQ_n ?_ | refine blockQ_r ?_ | refine blockQ_hit ?_ | refine qb4 ?_ | refine qe ?_ | refine loopQ_e ?_ | refine loopQ_r ?_
    all_goals clear E
    exact ret_own rfl rfl rfl (by rw [e1]) (by rw [e1])
theorem C58 (p : Pat) (h : psize p ≤ 1099511627776) : C Try.prog 58 [p.av] [] (dInt (bindsOf p)) [] [] := by
  have hps := psize_eq p
  refine C_intro T_ok (rs := [.tmp 2]) Try.func58 rfl rfl rfl (Nat.le_of_ble_eq_true rfl) (Nat.le_of_ble_eq_true rfl) rfl ⟨rfl, rfl⟩ rfl fun cx hn => ?_
  have hn : cx.n = 29 := hn
  have Y := And.intro T3 (And.intro T9 (And.intro T61 (T63)))
  simp only [enumA, enumO, Nat.reduceAdd]
  repeat' first | refine R_nil ?_ | ((with_reducible apply tagG); first | refine qg1 ?_ | refine qg2 ?_ | refine qg3 ?_ | refine qg4 ?_ | refine qg5 ?_ | refine qg6 (fun hb => ?_) (fun hb => ?_)) | ((with_reducible apply tagS); first | ((with_reducible apply tagD); first | refine qd1 ?_ | refine qd3 ?_) | ((with_reducible apply tagR); first | refine qr1 ?_ | refine qr3 ?_)) | ((with_reducible apply tagN); first | ((with_reducible apply tagD); first | refine qd2 ?_ | refine qd4 ?_) | ((with_reducible apply tagR); first | refine qr2 ?_ | refine qr4 ?_)) | ((with_reducible apply tagW); first | refine qw1 ?_ | refine qw2 ?_ | refine qw3 ?_ | refine qw4 ?_ | refine qw5 ?_ | refine qw6 (fun hb => ?_) (fun hb => ?_) | refine qw7 ?_ | refine qw8 ?_ | refine qw9 ?_ | refine qw0 ?_) | refine thenQ_n ?_ | refine thenQ_e ?_ | refine thenQ_r ?_ | refine blockQ_n ?_ | refine blockQ_r ?_ | refine blockQ_hit ?_ | refine qb4 ?_ | refine qe ?_ | refine loopQ_e ?_ | refine loopQ_r ?_
  refine W_loopQ (α := Nat × List (List D) × List Pat × Int) (fun x => [(4, .ref 7 x.1 x.2.2.1.length), (3, dInt x.2.2.2)]) (fun x => [(7, some (.row 4 x.2.1))]) (fun x => psizes x.2.2.1) (fun x => (x.2.1.drop x.1).take x.2.2.1.length = patsD x.2.2.1 ∧ x.1 + x.2.2.1.length ≤ x.2.1.length ∧ (∀ e ∈ x.2.1, e.length = 4) ∧ 0 ≤ x.2.2.2 ∧ x.2.2.2 + bindsL x.2.2.1 = bindsOf p ∧ psizes x.2.2.1 ≤ psize p)
    (0, patsD [p], [p], 0) ⟨rfl, by simp [patsD_len], patsD_rows _, Int.le_refl 0, by simp [bindsL], by simp [psizes]⟩ (by
      have E : patsD [p] = [[DI p.kind, DI p.num, DS p.text, .sl (patsD p.args)]] := by rw [patsD_map]; simp [Pat.row_eq]
      exact qs) fun ⟨lo, row, q, n⟩ ⟨he, hlo, hrow, hn0, hnn, hq⟩ => ?_
  dsimp only at he hlo hrow hn0 hnn hq ⊢
  have hbp := binds_le p
  cases q with
  | nil =>
    have h1 : ¬ (0 : Int) < (([] : List Pat).length : Int) := by simp
    have E := @h1
    repeat' first | refine R_nil ?_ | ((with_reducible apply tagG); first | refine qg1 ?_ | refine qg2 ?_ | refine qg3 ?_ | refine qg4 ?_ | refine qg5 ?_ | refine qg6 (fun hb => ?_) (fun hb => ?_)) | ((with_reducible apply tagS); first | ((with_reducible apply tagD); first | refine qd1 ?_ | refine qd3 ?_) | ((with_reducible apply tagR); first | refine qr1 ?_ | refine qr3 ?_)) | ((with_reducible apply tagN); first | ((with_reducible apply tagD); first | refine qd2 ?_ | refine qd4 ?_) | ((with_reducible apply tagR); first | refine qr2 ?_ | refine qr4 ?_)) | ((with_reducible apply tagW); first | refine qw1 ?_ | refine qw2 ?_ | refine qw3 ?_ | refine qw4 ?_ | refine qw5 ?_ | refine qw6 (fun hb => ?_) (fun hb => ?_) | refine qw7 ?_ | refine qw8 ?_ | refine qw9 ?_ | refine qw0 ?_) | refine thenQ_n ?_ | refine thenQ_e ?_ | refine thenQ_r ?_ | refine blockQ_n ?_ | refine blockQ_r ?_ | refine blockQ_hit ?_ | refine qb4 ?_ | refine qe ?_ | refine loopQ_e ?_ | refine loopQ_r ?_
    all_goals clear E
    refine ret_d rfl ?_
    rw [← hnn, bindsL]; simp
  | cons y q =>
    have h1 : (0 : Int) < ((q.length + 1 : Nat) : Int) := by omega
    have hbq := bindsL_le q
    have hby := binds_le y
    have hpy := psize_eq y
    rw [bindsL] at hnn
    rw [psizes] at hq
    have g0 : row.getD lo [] = [DI y.kind, DI y.num, DS y.text, .sl (patsD y.args)] := by
      have := congrArg (fun l => l[0]?) he
      rw [patsD_map] at this
      simp only [List.getElem?_take, List.length_cons, List.map_cons, List.getElem?_cons_zero] at this
      rw [if_pos (by omega), List.getElem?_drop, Nat.add_zero] at this
      rw [List.getD_eq_getElem?_getD, this, Pat.row_eq]; rfl
    have hll : lo < row.length := by simp at hlo; omega
    have hd1 : (row.drop (lo + 1)).take q.length = patsD q := by
      have := congrArg (List.drop 1) he
      rw [patsD_map, List.map_cons, List.drop_succ_cons, List.drop_zero, List.drop_take, List.drop_drop, ← patsD_map] at this
      simpa using this
    have z1 : q.length + 1 - 1 = q.length := rfl
    have z2 : ((q.length + 1 : Nat) : Int).toNat - 1 = q.length := by omega
    have hl1 : (1 : Int) ≤ ((q.length + 1 : Nat) : Int) := by omega
    have hle := psizes_len y.args
    have hlq := psizes_len q
    by_cases h2 : y.kind = 2
    · have e2 : decide (y.kind = 2) = true := by simp [h2]
      have e6 : decide (y.kind = 6) = false := by simp [h2]
      have hb2 : bindsOf y = 1 := by rw [bindsOf_eq, if_pos h2]
      have E := And.intro @h1 (And.intro @g0 (And.intro @hll (And.intro @e2 (And.intro @e6 (And.intro @z1 (@z2))))))
      repeat' first | refine R_nil ?_ | ((with_reducible apply tagG); first | refine qg1 ?_ | refine qg2 ?_ | refine qg3 ?_ | refine qg4 ?_ | refine qg5 ?_ | refine qg6 (fun hb => ?_) (fun hb => ?_)) | ((with_reducible apply tagS); first | ((with_reducible apply tagD); first | refine qd1 ?_ | refine qd3 ?_) | ((with_reducible apply tagR); first | refine qr1 ?_ | refine qr3 ?_)) | ((with_reducible apply tagN); first | ((with_reducible apply tagD); first | refine qd2 ?_ | refine qd4 ?_) | ((with_reducible apply tagR); first | refine qr2 ?_ | refine qr4 ?_)) | ((with_reducible apply tagW); first | refine qw1 ?_ | refine qw2 ?_ | refine qw3 ?_ | refine qw4 ?_ | refine qw5 ?_ | refine qw6 (fun hb => ?_) (fun hb => ?_) | refine qw7 ?_ | refine qw8 ?_ | refine qw9 ?_ | refine qw0 ?_) | refine thenQ_n ?_ | refine thenQ_e ?_ | refine thenQ_r ?_ | refine blockQ_n ?_ | refine blockQ_r ?_ | refine blockQ_hit ?_ | refine qb4 ?_ | refine qe ?_ | refine loopQ_e ?_ | refine loopQ_r ?_
      all_goals clear E
      refine loopQ_n (lo + 1, row, q, n + 1) (by dsimp only; rw [psizes]; omega) ⟨hd1, by simp at hlo ⊢; omega, hrow, by dsimp only; omega, by dsimp only; omega, by dsimp only; omega⟩ (by dsimp only; exact qs)
    · have e2 : decide (y.kind = 2) = false := by simp [h2]
      by_cases h6 : y.kind = 6
      · have e6 : decide (y.kind = 6) = true := by simp [h6]
        have hb6 : bindsOf y = bindsL y.args := by rw [bindsOf_eq, if_neg h2, if_pos h6]
        have hap : patsD q ++ patsD y.args = patsD (q ++ y.args) := by simp [patsD_map]
        have E := And.intro @h1 (And.intro @g0 (And.intro @hll (And.intro @e2 (And.intro @e6 (And.intro @z1 (And.intro @z2 (And.intro @hd1 (@hap))))))))
        repeat' first | refine R_nil ?_ | ((with_reducible apply tagG); first | refine qg1 ?_ | refine qg2 ?_ | refine qg3 ?_ | refine qg4 ?_ | refine qg5 ?_ | refine qg6 (fun hb => ?_) (fun hb => ?_)) | ((with_reducible apply tagS); first | ((with_reducible apply tagD); first | refine qd1 ?_ | refine qd3 ?_) | ((with_reducible apply tagR); first | refine qr1 ?_ | refine qr3 ?_)) | ((with_reducible apply tagN); first | ((with_reducible apply tagD); first | refine qd2 ?_ | refine qd4 ?_) | ((with_reducible apply tagR); first | refine qr2 ?_ | refine qr4 ?_)) | ((with_reducible apply tagW); first | refine qw1 ?_ | refine qw2 ?_ | refine qw3 ?_ | refine qw4 ?_ | refine qw5 ?_ | refine qw6 (fun hb => ?_) (fun hb => ?_) | refine qw7 ?_ | refine qw8 ?_ | refine qw9 ?_ | refine qw0 ?_) | refine thenQ_n ?_ | refine thenQ_e ?_ | refine thenQ_r ?_ | refine blockQ_n ?_ | refine blockQ_r ?_ | refine blockQ_hit ?_ | refine qb4 ?_ | refine qe ?_ | refine loopQ_e ?_ | refine loopQ_r ?_
        all_goals clear E
        refine loopQ_n (0, patsD (q ++ y.args), q ++ y.args, n) (by dsimp only; rw [psizes, psizes_app]; omega) ⟨?_, by simp [patsD_len], patsD_rows _, hn0, by dsimp only; rw [bindsL_app]; omega, by dsimp only; rw [psizes_app]; omega⟩ (by dsimp only; exact qs)
        dsimp only
        rw [List.drop_zero]; exact List.take_of_length_le (by rw [patsD_len]; omega)
      · have e6 : decide (y.kind = 6) = false := by simp [h6]
        have hb0 : bindsOf y = 0 := by rw [bindsOf_eq, if_neg h2, if_neg h6]
        have E := And.intro @h1 (And.intro @g0 (And.intro @hll (And.intro @e2 (And.intro @e6 (And.intro @z1 (@z2))))))
        repeat' first | refine R_nil ?_ | ((with_reducible apply tagG); first | refine qg1 ?_ | refine qg2 ?_ | refine qg3 ?_ | refine qg4 ?_ | refine qg5 ?_ | refine qg6 (fun hb => ?_) (fun hb => ?_)) | ((with_reducible apply tagS); first | ((with_reducible apply tagD); first | refine qd1 ?_ | refine qd3 ?_) | ((with_reducible apply tagR); first | refine qr1 ?_ | refine qr3 ?_)) | ((with_reducible apply tagN); first | ((with_reducible apply tagD); first | refine qd2 ?_ | refine qd4 ?_) | ((with_reducible apply tagR); first | refine qr2 ?_ | refine qr4 ?_)) | ((with_reducible apply tagW); first | refine qw1 ?_ | refine qw2 ?_ | refine qw3 ?_ | refine qw4 ?_ | refine qw5 ?_ | refine qw6 (fun hb => ?_) (fun hb => ?_) | refine qw7 ?_ | refine qw8 ?_ | refine qw9 ?_ | refine qw0 ?_) | refine thenQ_n ?_ | refine thenQ_e ?_ | refine thenQ_r ?_ | refine blockQ_n ?_ | refine blockQ_r ?_ | refine blockQ_hit ?_ | refine qb4 ?_ | refine qe ?_ | refine loopQ_e ?_ | refine loopQ_r ?_
        all_goals clear E
        refine loopQ_n (lo + 1, row, q, n) (by dsimp only; rw [psizes]; omega) ⟨hd1, by simp at hlo ⊢; omega, hrow, hn0, by dsimp only; omega, by dsimp only; omega⟩ (by dsimp only; exact qs)
end Go.Pw
