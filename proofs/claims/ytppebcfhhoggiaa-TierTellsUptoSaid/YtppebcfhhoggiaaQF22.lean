/- Functions: jumps that are shortened. -/
import Derived.Test.YtppebcfhhoggiaaQF20
set_option linter.unusedVariables false
set_option linter.unusedSimpArgs false
namespace Go.Pw
open Go Go.Proofs
attribute [local irreducible] runL W endD thenQ blockQ loopQ
set_option maxRecDepth 8000
set_option maxHeartbeats 8000000
def toE (f : Fn) (pc : Int) : Int := endAt f.ins f.ins.length pc
def toA (f : Fn) (at_ : List Int) (pc : Int) : Int := (at_[(toE f pc).toNat]?).getD 0
def spread (l : List Arm) : List Int := l.flatMap fun a => a.pc :: (a.regs.length : Int) :: a.regs
def armTo (f : Fn) (at_ : List Int) (a : Arm) : Arm := ⟨toA f at_ a.pc, a.regs⟩
def lateTo (f : Fn) (at_ : List Int) (y : Int) : Int := if 0 ≤ y then toA f at_ y else y
def moved (f : Fn) (pc : Int) : Bool := !decide (toE f pc = pc)
def shortI (f : Fn) (at_ : List Int) (i : Ins) : Ins :=
  if i.op = 3 then ⟨i.op, toA f at_ i.a, i.b, i.c, i.args⟩
  else if i.op = 4 then ⟨i.op, i.a, toA f at_ i.b, i.c, i.args⟩
  else if i.op = 11 then ⟨i.op, i.a, i.b, i.c, spread ((armsOf i).map (armTo f at_))⟩
  else if i.op = 16 then ⟨i.op, i.a, i.b, i.c, (i.args.take 1).map (lateTo f at_) ++ spread ((armsOf i).map (armTo f at_))⟩
  else i
def shortB (f : Fn) (i : Ins) : Bool :=
  if i.op = 3 then moved f i.a
  else if i.op = 4 then moved f i.b
  else if i.op = 11 then (armsOf i).any fun a => moved f a.pc
  else if i.op = 16 then ((armsOf i).any fun a => moved f a.pc) || (i.args.take 1).any fun y => decide (0 ≤ y) && moved f y
  else false
structure Tgt (n : Nat) (i : Ins) : Prop where
  jump : i.op = 3 → wi i.a n = true
  ifnot : i.op = 4 → wi i.b n = true
  arm : ∀ a ∈ armsOf i, wi a.pc n = true
  late : i.op = 16 → ∃ y l, i.args = y :: l ∧ (0 ≤ y → wi y n = true)
theorem endAt_in {ins : List Ins} (hi : inside ins) : ∀ (k : Nat) (pc : Int), 0 ≤ pc ∧ pc < ins.length → 0 ≤ endAt ins k pc ∧ endAt ins k pc < ins.length
  | 0, pc, h => h
  | k + 1, pc, h => by
    obtain ⟨x, hx⟩ := get_ex (show pc.toNat < ins.length by omega)
    simp only [endAt]
    rw [if_neg (by simp; omega), hx]
    dsimp only
    split
    · rename_i h3
      exact endAt_in hi k x.a (hi x (List.mem_of_getElem? hx) h3)
    · exact h
theorem toA_get {f : Fn} {at_ : List Int} (hi : inside f.ins) (hl : at_.length = f.ins.length) {pc : Int} (h : wi pc f.ins.length = true) : 0 ≤ toE f pc ∧ at_[(toE f pc).toNat]? = some (toA f at_ pc) := by
  simp only [wi, Bool.and_eq_true, decide_eq_true_eq] at h
  have h2 := endAt_in hi f.ins.length pc h
  obtain ⟨z, hz⟩ := get_ex (show (toE f pc).toNat < at_.length by unfold toE; omega)
  refine ⟨h2.1, ?_⟩
  unfold toA; rw [hz]; rfl
theorem C64' (pc : Int) (f : Fn) (b : Bool) (at_ : List Int) (hf : Sm f.ins) (hi : inside f.ins) (hl : at_.length = f.ins.length) (h : wi pc f.ins.length = true) :
    C Try.prog 64 [dInt pc, .ptr 1000 0 0, .ptr 1001 0 0, .ptr 1002 0 0] [.box f.cells, .box [dBool b], .box [.d (.sl (ints at_))]] (dInt (toA f at_ pc)) [.box f.cells, .box [dBool (b || moved f pc)], .box [.d (.sl (ints at_))]] [] :=
  C64 pc f b at_ _ hf (toA_get hi hl h).1 (toA_get hi hl h).2
theorem inss_set (l : List Ins) (j : Nat) (o a b c : Int) (args : List Int) : (inss l).set j [DI o, DI a, DI b, DI c, .sl (ints args)] = inss (l.set j ⟨o, a, b, c, args⟩) := by simp [inss, List.map_set, Ins.row]
theorem armsD_set (l : List Arm) (j : Nat) (p : Int) (r : List Int) : (armsD l).set j [DI p, .sl (ints r)] = armsD (l.set j ⟨p, r⟩) := by simp [armsD, List.map_set, Arm.row]
theorem set_same {α : Type} {l : List α} {j : Nat} {x : α} (h : l[j]? = some x) : l.set j x = l := by
  obtain ⟨h1, rfl⟩ := List.getElem?_eq_some_iff.1 h
  exact List.set_getElem_self h1
theorem armTo_step {l : List Arm} {j : Nat} {y : Arm} (g : Arm → Arm) (hy : l[j]? = some y) : ((l.take j).map g ++ l.drop j).set j (g y) = (l.take (j + 1)).map g ++ l.drop (j + 1) := by
  have hj := (List.getElem?_eq_some_iff.1 hy).1
  have e : ((l.take j).map g).length = j := by simp; omega
  rw [List.set_append, if_neg (by omega), e, Nat.sub_self, drop_some hy, List.set_cons_zero, List.take_add_one, hy]
  simp
theorem shape_set (l : List Ins) (j : Nat) (x : Ins) : [Ob.row 5 (inss (l.set j x))].map Ob.shape = [Ob.row 5 (inss l)].map Ob.shape := by simp [Ob.shape, inss]
theorem C42 (f : Fn) (l : List Ins) (j : Nat) (x : Ins) (at_ : List Int) (hf : Sm f.ins) (hi : inside f.ins) (hl : at_.length = f.ins.length) (hx : l[j]? = some x) (ht : Tgt f.ins.length x) (hs : x.args.length ≤ 1048576) :
    C Try.prog 42 [f.av, .ptr 1000 j 0, .d (.sl (ints at_))] [.row 5 (inss l)] (dBool (shortB f x)) [.row 5 (inss (l.set j (shortI f at_ x)))] [] := by
  have hjl := (List.getElem?_eq_some_iff.1 hx).1
  have hjl' : j < (inss l).length := by rw [inss_len]; exact hjl
  by_cases h3 : x.op = 3
  · have ne := neq_of h3
    have e3 : decide (x.op = 3) = true := by simp [h3]
    have eS := inss_set l j x.op (toA f at_ x.a) x.b x.c x.args
    refine C_intro T_ok (rs := [.tmp 6]) Try.func42 rfl rfl rfl (Nat.le_of_ble_eq_true rfl) (Nat.le_of_ble_eq_true rfl) (shape_set _ _ _) ⟨rfl, rfl⟩ rfl fun cx hn => ?_
    have hn : cx.n = 91 := hn
    have Y := And.intro T3 (And.intro T4 (And.intro T9 (And.intro T23 (And.intro T38 (And.intro T40 (And.intro T60 (And.intro T95 (T98))))))))
    simp only [enumA, enumO, Nat.reduceAdd]
    have E := And.intro @e3 (And.intro (inss_get hx) (And.intro @hjl' (@eS)))
    repeat' first | refine R_nil ?_ | ((with_reducible apply tagG); first | refine qg1 ?_ | refine qg2 ?_ | refine qg3 ?_ | refine qg4 ?_ | refine qg5 ?_ | refine qg6 (fun hb => ?_) (fun hb => ?_)) | ((with_reducible apply tagK); first | ((with_reducible apply tagD); first | refine qd7 [3, 7, 5] (C64' x.a f false at_ hf hi hl (ht.jump h3)) ?_ | refine qd6 [3, 7, 5] (C64' x.a f false at_ hf hi hl (ht.jump h3)) ?_) | ((with_reducible apply tagR); first | refine qr7 [3, 7, 5] (C64' x.a f false at_ hf hi hl (ht.jump h3)) ?_ | refine qr6 [3, 7, 5] (C64' x.a f false at_ hf hi hl (ht.jump h3)) ?_)) | ((with_reducible apply tagS); first | ((with_reducible apply tagD); first | refine qd1 ?_ | refine qd3 ?_) | ((with_reducible apply tagR); first | refine qr1 ?_ | refine qr3 ?_)) | ((with_reducible apply tagN); first | ((with_reducible apply tagD); first | refine qd2 ?_ | refine qd4 ?_) | ((with_reducible apply tagR); first | refine qr2 ?_ | refine qr4 ?_)) | ((with_reducible apply tagW); first | refine qw1 ?_ | refine qw2 ?_ | refine qw3 ?_ | refine qw4 ?_ | refine qw5 ?_ | refine qw6 (fun hb => ?_) (fun hb => ?_) | refine qw7 ?_ | refine qw8 ?_ | refine qw9 ?_ | refine qw0 ?_) | refine thenQ_n ?_ | refine thenQ_e ?_ | refine thenQ_r ?_ | refine blockQ_n ?_ | refine blockQ_r ?_ | refine blockQ_hit ?_ | refine qb4 ?_ | refine qe ?_ | refine loopQ_e ?_ | refine loopQ_r ?_
    all_goals clear E
    have e : shortI f at_ x = ⟨x.op, toA f at_ x.a, x.b, x.c, x.args⟩ := by simp [shortI, h3]
    exact ret_dM rfl (by simp [shortB, h3]) (by rw [e]; rfl) rfl
  by_cases h4 : x.op = 4
  · have ne := neq_of h4
    have e3 : decide (x.op = 4) = true := by simp [h4]
    have eS := inss_set l j x.op x.a (toA f at_ x.b) x.c x.args
    refine C_intro T_ok (rs := [.tmp 6]) Try.func42 rfl rfl rfl (Nat.le_of_ble_eq_true rfl) (Nat.le_of_ble_eq_true rfl) (shape_set _ _ _) ⟨rfl, rfl⟩ rfl fun cx hn => ?_
    have hn : cx.n = 91 := hn
    have Y := And.intro T3 (And.intro T4 (And.intro T9 (And.intro T23 (And.intro T38 (And.intro T40 (And.intro T60 (And.intro T95 (T98))))))))
    simp only [enumA, enumO, Nat.reduceAdd]
    have E := And.intro @e3 (And.intro @ne (And.intro (inss_get hx) (And.intro @hjl' (@eS))))
    repeat' first | refine R_nil ?_ | ((with_reducible apply tagG); first | refine qg1 ?_ | refine qg2 ?_ | refine qg3 ?_ | refine qg4 ?_ | refine qg5 ?_ | refine qg6 (fun hb => ?_) (fun hb => ?_)) | ((with_reducible apply tagK); first | ((with_reducible apply tagD); first | refine qd7 [3, 7, 5] (C64' x.b f false at_ hf hi hl (ht.ifnot h4)) ?_ | refine qd6 [3, 7, 5] (C64' x.b f false at_ hf hi hl (ht.ifnot h4)) ?_) | ((with_reducible apply tagR); first | refine qr7 [3, 7, 5] (C64' x.b f false at_ hf hi hl (ht.ifnot h4)) ?_ | refine qr6 [3, 7, 5] (C64' x.b f false at_ hf hi hl (ht.ifnot h4)) ?_)) | ((with_reducible apply tagS); first | ((with_reducible apply tagD); first | refine qd1 ?_ | refine qd3 ?_) | ((with_reducible apply tagR); first | refine qr1 ?_ | refine qr3 ?_)) | ((with_reducible apply tagN); first | ((with_reducible apply tagD); first | refine qd2 ?_ | refine qd4 ?_) | ((with_reducible apply tagR); first | refine qr2 ?_ | refine qr4 ?_)) | ((with_reducible apply tagW); first | refine qw1 ?_ | refine qw2 ?_ | refine qw3 ?_ | refine qw4 ?_ | refine qw5 ?_ | refine qw6 (fun hb => ?_) (fun hb => ?_) | refine qw7 ?_ | refine qw8 ?_ | refine qw9 ?_ | refine qw0 ?_) | refine thenQ_n ?_ | refine thenQ_e ?_ | refine thenQ_r ?_ | refine blockQ_n ?_ | refine blockQ_r ?_ | refine blockQ_hit ?_ | refine qb4 ?_ | refine qe ?_ | refine loopQ_e ?_ | refine loopQ_r ?_
    all_goals clear E
    have e : shortI f at_ x = ⟨x.op, x.a, toA f at_ x.b, x.c, x.args⟩ := by simp [shortI, h4]
    exact ret_dM rfl (by simp [shortB, h4]) (by rw [e]; rfl) rfl
  have hs' : Sm x.args := by show x.args.length ≤ _; omega
  have n3 : decide (x.op = 3) = false := by simp [h3]
  have n4 : decide (x.op = 4) = false := by simp [h4]
  have hal := armsOf_len x
  have har := armsOf_regs x
  have hsp : (spread ((armsOf x).map (armTo f at_))).length ≤ 3 * x.args.length := by
    have : ∀ m : List Arm, (spread (m.map (armTo f at_))).length = 2 * m.length + (m.flatMap (·.regs)).length := by
      intro m
      induction m with
      | nil => rfl
      | cons a m ih => simp only [spread, List.map_cons, List.flatMap_cons, List.length_append, List.length_cons, armTo] at ih ⊢; omega
    rw [this]; omega
  have hC67 : C Try.prog 67 [slA true (armsD ((armsOf x).map (armTo f at_)))] [] (.ref 2000 0 (spread ((armsOf x).map (armTo f at_))).length) [] [.row 1 (ints (spread ((armsOf x).map (armTo f at_))))] := C67 ((armsOf x).map (armTo f at_)) true (by show _ ≤ _; rw [List.length_map]; omega) (Nat.le_trans hsp (by omega))
  have eT : (armsD ((armsOf x).map (armTo f at_))).take (armsOf x).length = armsD ((armsOf x).map (armTo f at_)) := List.take_of_length_le (by rw [armsD_len, List.length_map]; omega)
  have eA : ((armsOf x).take (armsOf x).length).map (armTo f at_) ++ (armsOf x).drop (armsOf x).length = (armsOf x).map (armTo f at_) := by rw [List.take_length, List.drop_length, List.append_nil]
  have eI : (ints (spread ((armsOf x).map (armTo f at_)))).take (spread ((armsOf x).map (armTo f at_))).length = ints (spread ((armsOf x).map (armTo f at_))) := take_all _ _ (by omega)
  by_cases h11 : x.op = 11
  · have e11 : decide (x.op = 11) = true := by simp [h11]
    have e16 : decide (x.op = 16) = false := by simp [h11]
    have eS := inss_set l j x.op x.a x.b x.c (spread ((armsOf x).map (armTo f at_)))
    have e : shortI f at_ x = ⟨x.op, x.a, x.b, x.c, spread ((armsOf x).map (armTo f at_))⟩ := by simp [shortI, h11]
    refine C_intro T_ok (rs := [.tmp 6]) Try.func42 rfl rfl rfl (Nat.le_of_ble_eq_true rfl) (Nat.le_of_ble_eq_true rfl) (shape_set _ _ _) ⟨rfl, rfl⟩ rfl fun cx hn => ?_
    have hn : cx.n = 91 := hn
    have Y := And.intro T3 (And.intro T4 (And.intro T9 (And.intro T23 (And.intro T38 (And.intro T40 (And.intro T60 (And.intro T95 (T98))))))))
    simp only [enumA, enumO, Nat.reduceAdd]
    have E := And.intro @n3 (And.intro @n4 (And.intro @e11 (And.intro (inss_get hx) (@hjl'))))
    repeat' first | refine R_nil ?_ | ((with_reducible apply tagG); first | refine qg1 ?_ | refine qg2 ?_ | refine qg3 ?_ | refine qg4 ?_ | refine qg5 ?_ | refine qg6 (fun hb => ?_) (fun hb => ?_)) | ((with_reducible apply tagK); first | ((with_reducible apply tagD); first | refine qd6 [] (C66 x hs') ?_) | ((with_reducible apply tagR); first | refine qr6 [] (C66 x hs') ?_)) | ((with_reducible apply tagS); first | ((with_reducible apply tagD); first | refine qd1 ?_ | refine qd3 ?_) | ((with_reducible apply tagR); first | refine qr1 ?_ | refine qr3 ?_)) | ((with_reducible apply tagN); first | ((with_reducible apply tagD); first | refine qd2 ?_ | refine qd4 ?_) | ((with_reducible apply tagR); first | refine qr2 ?_ | refine qr4 ?_)) | ((with_reducible apply tagW); first | refine qw1 ?_ | refine qw2 ?_ | refine qw3 ?_ | refine qw4 ?_ | refine qw5 ?_ | refine qw6 (fun hb => ?_) (fun hb => ?_) | refine qw7 ?_ | refine qw8 ?_ | refine qw9 ?_ | refine qw0 ?_) | refine thenQ_n ?_ | refine thenQ_e ?_ | refine thenQ_r ?_ | refine blockQ_n ?_ | refine blockQ_r ?_ | refine blockQ_hit ?_ | refine qb4 ?_ | refine qe ?_ | refine loopQ_e ?_ | refine loopQ_r ?_
    all_goals clear E
    refine W_loopQ (fun k : Nat => [(49, dInt k), (48, dInt (armsOf x).length), (9, .ref 2368 0 (armsOf x).length), (8, .fn 64 [(3, 0, 0), (7, 0, 0), (5, 0, 0)]), (1, .ptr 1000 j 0), (7, .ptr 7 0 0)]) (fun k => [(2368, some (.row 2 (armsD (((armsOf x).take k).map (armTo f at_) ++ (armsOf x).drop k)))), (3, some (.box f.cells)), (7, some (.box [dBool (((armsOf x).take k).any fun a => moved f a.pc)])), (5, some (.box [.d (.sl (ints at_))])), (1000, some (.row 5 (inss l)))]) (fun k => (armsOf x).length - k) (fun k => k ≤ (armsOf x).length) 0 (by omega) (by simp only [List.take_zero, List.map_nil, List.nil_append, List.drop_zero, List.any_nil]; exact qs) fun k hk => ?_
    by_cases hkl : k < (armsOf x).length
    · obtain ⟨y, hy⟩ := get_ex hkl
      have hk1 : (k:Int) < (armsOf x).length := by omega
      have hyB : (((armsOf x).take k).map (armTo f at_) ++ (armsOf x).drop k)[k]? = some y := by
        have e0 : (((armsOf x).take k).map (armTo f at_)).length = k := by simp; omega
        rw [List.getElem?_append_right (by omega), e0, Nat.sub_self, List.getElem?_drop]; exact hy
      have hlB : (((armsOf x).take k).map (armTo f at_) ++ (armsOf x).drop k).length = (armsOf x).length := by simp; omega
      have eQ : (armsD (((armsOf x).take k).map (armTo f at_) ++ (armsOf x).drop k)).set k [DI (toA f at_ y.pc), .sl (ints y.regs)] = armsD (((armsOf x).take (k + 1)).map (armTo f at_) ++ (armsOf x).drop (k + 1)) := by
        rw [armsD_set, ← armTo_step (armTo f at_) hy]; rfl
      have eB : (((armsOf x).take (k + 1)).any fun a => moved f a.pc) = ((((armsOf x).take k).any fun a => moved f a.pc) || moved f y.pc) := by
        rw [List.take_add_one, hy, List.any_append]; simp
      generalize ((armsOf x).take k).map (armTo f at_) ++ (armsOf x).drop k = B at *
      generalize (((armsOf x).take k).any fun a => moved f a.pc) = b0 at *
      have E := And.intro @hk1 (And.intro (armsD_get hyB) (And.intro @hlB (@eQ)))
      repeat' first | refine R_nil ?_ | ((with_reducible apply tagG); first | refine qg1 ?_ | refine qg2 ?_ | refine qg3 ?_ | refine qg4 ?_ | refine qg5 ?_ | refine qg6 (fun hb => ?_) (fun hb => ?_)) | ((with_reducible apply tagK); first | ((with_reducible apply tagD); first | refine qd7 [3, 7, 5] (C64' y.pc f b0 at_ hf hi hl (ht.arm y (List.mem_of_getElem? hy))) ?_ | refine qd6 [3, 7, 5] (C64' y.pc f b0 at_ hf hi hl (ht.arm y (List.mem_of_getElem? hy))) ?_) | ((with_reducible apply tagR); first | refine qr7 [3, 7, 5] (C64' y.pc f b0 at_ hf hi hl (ht.arm y (List.mem_of_getElem? hy))) ?_ | refine qr6 [3, 7, 5] (C64' y.pc f b0 at_ hf hi hl (ht.arm y (List.mem_of_getElem? hy))) ?_)) | ((with_reducible apply tagS); first | ((with_reducible apply tagD); first | refine qd1 ?_ | refine qd3 ?_) | ((with_reducible apply tagR); first | refine qr1 ?_ | refine qr3 ?_)) | ((with_reducible apply tagN); first | ((with_reducible apply tagD); first | refine qd2 ?_ | refine qd4 ?_) | ((with_reducible apply tagR); first | refine qr2 ?_ | refine qr4 ?_)) | ((with_reducible apply tagW); first | refine qw1 ?_ | refine qw2 ?_ | refine qw3 ?_ | refine qw4 ?_ | refine qw5 ?_ | refine qw6 (fun hb => ?_) (fun hb => ?_) | refine qw7 ?_ | refine qw8 ?_ | refine qw9 ?_ | refine qw0 ?_) | refine thenQ_n ?_ | refine thenQ_e ?_ | refine thenQ_r ?_ | refine blockQ_n ?_ | refine blockQ_r ?_ | refine blockQ_hit ?_ | refine qb4 ?_ | refine qe ?_ | refine loopQ_e ?_ | refine loopQ_r ?_
      all_goals clear E
      refine loopQ_n (k + 1) (by omega) (by omega) (by rw [eB]; exact qs)
    · have hk0 : ¬ (k : Int) < (armsOf x).length := by omega
      have ek : k = (armsOf x).length := by omega
      subst ek
      rw [eA, List.take_length]
      have E := And.intro @hk0 (And.intro @e16 (And.intro @eT (And.intro @eI (And.intro @eS (And.intro (inss_get hx) (@hjl'))))))
      repeat' first | refine R_nil ?_ | ((with_reducible apply tagG); first | refine qg1 ?_ | refine qg2 ?_ | refine qg3 ?_ | refine qg4 ?_ | refine qg5 ?_ | refine qg6 (fun hb => ?_) (fun hb => ?_)) | ((with_reducible apply tagK); first | ((with_reducible apply tagD); first | refine qd6 [] (hC67) ?_) | ((with_reducible apply tagR); first | refine qr6 [] (hC67) ?_)) | ((with_reducible apply tagS); first | ((with_reducible apply tagD); first | refine qd1 ?_ | refine qd3 ?_) | ((with_reducible apply tagR); first | refine qr1 ?_ | refine qr3 ?_)) | ((with_reducible apply tagN); first | ((with_reducible apply tagD); first | refine qd2 ?_ | refine qd4 ?_) | ((with_reducible apply tagR); first | refine qr2 ?_ | refine qr4 ?_)) | ((with_reducible apply tagW); first | refine qw1 ?_ | refine qw2 ?_ | refine qw3 ?_ | refine qw4 ?_ | refine qw5 ?_ | refine qw6 (fun hb => ?_) (fun hb => ?_) | refine qw7 ?_ | refine qw8 ?_ | refine qw9 ?_ | refine qw0 ?_) | refine thenQ_n ?_ | refine thenQ_e ?_ | refine thenQ_r ?_ | refine blockQ_n ?_ | refine blockQ_r ?_ | refine blockQ_hit ?_ | refine qb4 ?_ | refine qe ?_ | refine loopQ_e ?_ | refine loopQ_r ?_
      all_goals clear E
      exact ret_dM rfl (by simp [shortB, h11]) (by rw [e]; rfl) rfl
  by_cases h16 : x.op = 16
  · have e11 : decide (x.op = 11) = false := by simp [h11]
    have e16 : decide (x.op = 16) = true := by simp [h16]
    obtain ⟨y, l2, hya, hyw⟩ := ht.late h16
    have hy0 : x.args[0]? = some y := by rw [hya]; rfl
    have hl0 : (0 : Int) < x.args.length := by rw [hya]; simp
    have t0 : Int.toNat 0 = 0 := rfl
    have eS := inss_set l j x.op x.a x.b x.c (lateTo f at_ y :: spread ((armsOf x).map (armTo f at_)))
    have e : shortI f at_ x = ⟨x.op, x.a, x.b, x.c, lateTo f at_ y :: spread ((armsOf x).map (armTo f at_))⟩ := by simp [shortI, h16, hya]
    have eJ : [[DI (lateTo f at_ y)]] ++ ints (spread ((armsOf x).map (armTo f at_))) = ints (lateTo f at_ y :: spread ((armsOf x).map (armTo f at_))) := rfl
    have eK : (ints (lateTo f at_ y :: spread ((armsOf x).map (armTo f at_)))).take ((spread ((armsOf x).map (armTo f at_))).length + 1) = ints (lateTo f at_ y :: spread ((armsOf x).map (armTo f at_))) := take_all _ _ (by simp)
    refine C_intro T_ok (rs := [.tmp 6]) Try.func42 rfl rfl rfl (Nat.le_of_ble_eq_true rfl) (Nat.le_of_ble_eq_true rfl) (shape_set _ _ _) ⟨rfl, rfl⟩ rfl fun cx hn => ?_
    have hn : cx.n = 91 := hn
    have Y := And.intro T3 (And.intro T4 (And.intro T9 (And.intro T23 (And.intro T38 (And.intro T40 (And.intro T60 (And.intro T95 (T98))))))))
    simp only [enumA, enumO, Nat.reduceAdd]
    have E := And.intro @n3 (And.intro @n4 (And.intro @e11 (And.intro @e16 (And.intro (inss_get hx) (@hjl')))))
    repeat' first | refine R_nil ?_ | ((with_reducible apply tagG); first | refine qg1 ?_ | refine qg2 ?_ | refine qg3 ?_ | refine qg4 ?_ | refine qg5 ?_ | refine qg6 (fun hb => ?_) (fun hb => ?_)) | ((with_reducible apply tagK); first | ((with_reducible apply tagD); first | refine qd6 [] (C66 x hs') ?_) | ((with_reducible apply tagR); first | refine qr6 [] (C66 x hs') ?_)) | ((with_reducible apply tagS); first | ((with_reducible apply tagD); first | refine qd1 ?_ | refine qd3 ?_) | ((with_reducible apply tagR); first | refine qr1 ?_ | refine qr3 ?_)) | ((with_reducible apply tagN); first | ((with_reducible apply tagD); first | refine qd2 ?_ | refine qd4 ?_) | ((with_reducible apply tagR); first | refine qr2 ?_ | refine qr4 ?_)) | ((with_reducible apply tagW); first | refine qw1 ?_ | refine qw2 ?_ | refine qw3 ?_ | refine qw4 ?_ | refine qw5 ?_ | refine qw6 (fun hb => ?_) (fun hb => ?_) | refine qw7 ?_ | refine qw8 ?_ | refine qw9 ?_ | refine qw0 ?_) | refine thenQ_n ?_ | refine thenQ_e ?_ | refine thenQ_r ?_ | refine blockQ_n ?_ | refine blockQ_r ?_ | refine blockQ_hit ?_ | refine qb4 ?_ | refine qe ?_ | refine loopQ_e ?_ | refine loopQ_r ?_
    all_goals clear E
    refine W_loopQ (fun k : Nat => [(49, dInt k), (48, dInt (armsOf x).length), (9, .ref 2368 0 (armsOf x).length), (8, .fn 64 [(3, 0, 0), (7, 0, 0), (5, 0, 0)]), (1, .ptr 1000 j 0), (7, .ptr 7 0 0)]) (fun k => [(2368, some (.row 2 (armsD (((armsOf x).take k).map (armTo f at_) ++ (armsOf x).drop k)))), (3, some (.box f.cells)), (7, some (.box [dBool (((armsOf x).take k).any fun a => moved f a.pc)])), (5, some (.box [.d (.sl (ints at_))])), (1000, some (.row 5 (inss l)))]) (fun k => (armsOf x).length - k) (fun k => k ≤ (armsOf x).length) 0 (by omega) (by simp only [List.take_zero, List.map_nil, List.nil_append, List.drop_zero, List.any_nil]; exact qs) fun k hk => ?_
    by_cases hkl : k < (armsOf x).length
    · obtain ⟨y, hy⟩ := get_ex hkl
      have hk1 : (k:Int) < (armsOf x).length := by omega
      have hyB : (((armsOf x).take k).map (armTo f at_) ++ (armsOf x).drop k)[k]? = some y := by
        have e0 : (((armsOf x).take k).map (armTo f at_)).length = k := by simp; omega
        rw [List.getElem?_append_right (by omega), e0, Nat.sub_self, List.getElem?_drop]; exact hy
      have hlB : (((armsOf x).take k).map (armTo f at_) ++ (armsOf x).drop k).length = (armsOf x).length := by simp; omega
      have eQ : (armsD (((armsOf x).take k).map (armTo f at_) ++ (armsOf x).drop k)).set k [DI (toA f at_ y.pc), .sl (ints y.regs)] = armsD (((armsOf x).take (k + 1)).map (armTo f at_) ++ (armsOf x).drop (k + 1)) := by
        rw [armsD_set, ← armTo_step (armTo f at_) hy]; rfl
      have eB : (((armsOf x).take (k + 1)).any fun a => moved f a.pc) = ((((armsOf x).take k).any fun a => moved f a.pc) || moved f y.pc) := by
        rw [List.take_add_one, hy, List.any_append]; simp
      generalize ((armsOf x).take k).map (armTo f at_) ++ (armsOf x).drop k = B at *
      generalize (((armsOf x).take k).any fun a => moved f a.pc) = b0 at *
      have E := And.intro @hk1 (And.intro (armsD_get hyB) (And.intro @hlB (@eQ)))
      repeat' first | refine R_nil ?_ | ((with_reducible apply tagG); first | refine qg1 ?_ | refine qg2 ?_ | refine qg3 ?_ | refine qg4 ?_ | refine qg5 ?_ | refine qg6 (fun hb => ?_) (fun hb => ?_)) | ((with_reducible apply tagK); first | ((with_reducible apply tagD); first | refine qd7 [3, 7, 5] (C64' y.pc f b0 at_ hf hi hl (ht.arm y (List.mem_of_getElem? hy))) ?_ | refine qd6 [3, 7, 5] (C64' y.pc f b0 at_ hf hi hl (ht.arm y (List.mem_of_getElem? hy))) ?_) | ((with_reducible apply tagR); first | refine qr7 [3, 7, 5] (C64' y.pc f b0 at_ hf hi hl (ht.arm y (List.mem_of_getElem? hy))) ?_ | refine qr6 [3, 7, 5] (C64' y.pc f b0 at_ hf hi hl (ht.arm y (List.mem_of_getElem? hy))) ?_)) | ((with_reducible apply tagS); first | ((with_reducible apply tagD); first | refine qd1 ?_ | refine qd3 ?_) | ((with_reducible apply tagR); first | refine qr1 ?_ | refine qr3 ?_)) | ((with_reducible apply tagN); first | ((with_reducible apply tagD); first | refine qd2 ?_ | refine qd4 ?_) | ((with_reducible apply tagR); first | refine qr2 ?_ | refine qr4 ?_)) | ((with_reducible apply tagW); first | refine qw1 ?_ | refine qw2 ?_ | refine qw3 ?_ | refine qw4 ?_ | refine qw5 ?_ | refine qw6 (fun hb => ?_) (fun hb => ?_) | refine qw7 ?_ | refine qw8 ?_ | refine qw9 ?_ | refine qw0 ?_) | refine thenQ_n ?_ | refine thenQ_e ?_ | refine thenQ_r ?_ | refine blockQ_n ?_ | refine blockQ_r ?_ | refine blockQ_hit ?_ | refine qb4 ?_ | refine qe ?_ | refine loopQ_e ?_ | refine loopQ_r ?_
      all_goals clear E
      refine loopQ_n (k + 1) (by omega) (by omega) (by rw [eB]; exact qs)
    · have hk0 : ¬ (k : Int) < (armsOf x).length := by omega
      have ek : k = (armsOf x).length := by omega
      subst ek
      rw [eA, List.take_length]
      by_cases hyp : 0 ≤ y
      · have el : lateTo f at_ y = toA f at_ y := by simp [lateTo, hyp]
        rw [el] at eJ eK eS
        have E := And.intro @hk0 (And.intro @e16 (And.intro @eT (And.intro @eI (And.intro @eJ (And.intro @eK (And.intro @eS (And.intro (inss_get hx) (And.intro @hjl' (And.intro (ints_get hy0) (And.intro @hl0 (And.intro @t0 (@hyp))))))))))))
        repeat' first | refine R_nil ?_ | ((with_reducible apply tagG); first | refine qg1 ?_ | refine qg2 ?_ | refine qg3 ?_ | refine qg4 ?_ | refine qg5 ?_ | refine qg6 (fun hb => ?_) (fun hb => ?_)) | ((with_reducible apply tagK); first | ((with_reducible apply tagD); first | refine qd6 [] (hC67) ?_ | refine qd7 [3, 7, 5] (C64' y f _ at_ hf hi hl (hyw hyp)) ?_ | refine qd6 [3, 7, 5] (C64' y f _ at_ hf hi hl (hyw hyp)) ?_) | ((with_reducible apply tagR); first | refine qr6 [] (hC67) ?_ | refine qr7 [3, 7, 5] (C64' y f _ at_ hf hi hl (hyw hyp)) ?_ | refine qr6 [3, 7, 5] (C64' y f _ at_ hf hi hl (hyw hyp)) ?_)) | ((with_reducible apply tagS); first | ((with_reducible apply tagD); first | refine qd1 ?_ | refine qd3 ?_) | ((with_reducible apply tagR); first | refine qr1 ?_ | refine qr3 ?_)) | ((with_reducible apply tagN); first | ((with_reducible apply tagD); first | refine qd2 ?_ | refine qd4 ?_) | ((with_reducible apply tagR); first | refine qr2 ?_ | refine qr4 ?_)) | ((with_reducible apply tagW); first | refine qw1 ?_ | refine qw2 ?_ | refine qw3 ?_ | refine qw4 ?_ | refine qw5 ?_ | refine qw6 (fun hb => ?_) (fun hb => ?_) | refine qw7 ?_ | refine qw8 ?_ | refine qw9 ?_ | refine qw0 ?_) | refine thenQ_n ?_ | refine thenQ_e ?_ | refine thenQ_r ?_ | refine blockQ_n ?_ | refine blockQ_r ?_ | refine blockQ_hit ?_ | refine qb4 ?_ | refine qe ?_ | refine loopQ_e ?_ | refine loopQ_r ?_
        all_goals clear E
        exact ret_dM rfl (by simp [shortB, h16, hya, hyp]) (by rw [e, el]; rfl) rfl
      · have el : lateTo f at_ y = y := by simp [lateTo, hyp]
        rw [el] at eJ eK eS
        have E := And.intro @hk0 (And.intro @e16 (And.intro @eT (And.intro @eI (And.intro @eJ (And.intro @eK (And.intro @eS (And.intro (inss_get hx) (And.intro @hjl' (And.intro (ints_get hy0) (And.intro @hl0 (And.intro @t0 (@hyp))))))))))))
        repeat' first | refine R_nil ?_ | ((with_reducible apply tagG); first | refine qg1 ?_ | refine qg2 ?_ | refine qg3 ?_ | refine qg4 ?_ | refine qg5 ?_ | refine qg6 (fun hb => ?_) (fun hb => ?_)) | ((with_reducible apply tagK); first | ((with_reducible apply tagD); first | refine qd6 [] (hC67) ?_) | ((with_reducible apply tagR); first | refine qr6 [] (hC67) ?_)) | ((with_reducible apply tagS); first | ((with_reducible apply tagD); first | refine qd1 ?_ | refine qd3 ?_) | ((with_reducible apply tagR); first | refine qr1 ?_ | refine qr3 ?_)) | ((with_reducible apply tagN); first | ((with_reducible apply tagD); first | refine qd2 ?_ | refine qd4 ?_) | ((with_reducible apply tagR); first | refine qr2 ?_ | refine qr4 ?_)) | ((with_reducible apply tagW); first | refine qw1 ?_ | refine qw2 ?_ | refine qw3 ?_ | refine qw4 ?_ | refine qw5 ?_ | refine qw6 (fun hb => ?_) (fun hb => ?_) | refine qw7 ?_ | refine qw8 ?_ | refine qw9 ?_ | refine qw0 ?_) | refine thenQ_n ?_ | refine thenQ_e ?_ | refine thenQ_r ?_ | refine blockQ_n ?_ | refine blockQ_r ?_ | refine blockQ_hit ?_ | refine qb4 ?_ | refine qe ?_ | refine loopQ_e ?_ | refine loopQ_r ?_
        all_goals clear E
        exact ret_dM rfl (by simp [shortB, h16, hya, hyp]) (by rw [e, el]; rfl) rfl
  have e11 : decide (x.op = 11) = false := by simp [h11]
  have e16 : decide (x.op = 16) = false := by simp [h16]
  have e : shortI f at_ x = x := by simp [shortI, h3, h4, h11, h16]
  rw [e, set_same hx]
  refine C_intro T_ok (rs := [.tmp 6]) Try.func42 rfl rfl rfl (Nat.le_of_ble_eq_true rfl) (Nat.le_of_ble_eq_true rfl) rfl ⟨rfl, rfl⟩ rfl fun cx hn => ?_
  have hn : cx.n = 91 := hn
  have Y := And.intro T3 (And.intro T4 (And.intro T9 (And.intro T23 (And.intro T38 (And.intro T40 (And.intro T60 (And.intro T95 (T98))))))))
  simp only [enumA, enumO, Nat.reduceAdd]
  have E := And.intro @n3 (And.intro @n4 (And.intro @e11 (And.intro @e16 (And.intro (inss_get hx) (@hjl')))))
  repeat' first | refine R_nil ?_ | ((with_reducible apply tagG); first | refine qg1 ?_ | refine qg2 ?_ | refine qg3 ?_ | refine qg4 ?_ | refine qg5 ?_ | refine qg6 (fun hb => ?_) (fun hb => ?_)) | ((with_reducible apply tagS); first | ((with_reducible apply tagD); first | refine qd1 ?_ | refine qd3 ?_) | ((with_reducible apply tagR); first | refine qr1 ?_ | refine qr3 ?_)) | ((with_reducible apply tagN); first | ((with_reducible apply tagD); first | refine qd2 ?_ | refine qd4 ?_) | ((with_reducible apply tagR); first | refine qr2 ?_ | refine qr4 ?_)) | ((with_reducible apply tagW); first | refine qw1 ?_ | refine qw2 ?_ | refine qw3 ?_ | refine qw4 ?_ | refine qw5 ?_ | refine qw6 (fun hb => ?_) (fun hb => ?_) | refine qw7 ?_ | refine qw8 ?_ | refine qw9 ?_ | refine qw0 ?_) | refine thenQ_n ?_ | refine thenQ_e ?_ | refine thenQ_r ?_ | refine blockQ_n ?_ | refine blockQ_r ?_ | refine blockQ_hit ?_ | refine qb4 ?_ | refine qe ?_ | refine loopQ_e ?_ | refine loopQ_r ?_
  all_goals clear E
  exact ret_dM rfl (by simp [shortB, h3, h4, h11, h16]) rfl rfl
end Go.Pw
