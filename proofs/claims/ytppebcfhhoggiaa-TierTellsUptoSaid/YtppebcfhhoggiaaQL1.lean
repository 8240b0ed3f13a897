/- Data as trees, a frame's own memory as named objects, and what it means that a world reads so. -/
import Derived.WalkKit
import Derived.Orders
set_option linter.unusedVariables false
set_option linter.unusedSimpArgs false
set_option linter.unusedSectionVars false
set_option linter.unnecessarySimpa false
namespace Go.Pw
open Go
inductive All2 {α β : Type} (R : α → β → Prop) : List α → List β → Prop
  | nil : All2 R [] []
  | cons {a : α} {b : β} {as : List α} {bs : List β} (h : R a b) (t : All2 R as bs) : All2 R (a :: as) (b :: bs)
theorem All2.length {α β : Type} {R : α → β → Prop} {xs : List α} {ys : List β} (h : All2 R xs ys) : xs.length = ys.length := by
  induction h with
  | nil => rfl
  | cons _ _ ih => simp [ih]
theorem All2.get {α β : Type} {R : α → β → Prop} {xs : List α} {ys : List β} (h : All2 R xs ys) : ∀ (i : Nat) x, xs[i]? = some x → ∃ y, ys[i]? = some y ∧ R x y := by
  induction h with
  | nil => intro i x hx; simp at hx
  | cons hr _ ih =>
    intro i x hx
    cases i with
    | zero => simp at hx; subst hx; exact ⟨_, rfl, hr⟩
    | succ i => simpa using ih i x (by simpa using hx)
theorem All2.of_get {α β : Type} {R : α → β → Prop} {xs : List α} : ∀ {ys : List β}, xs.length = ys.length → (∀ (i : Nat) x y, xs[i]? = some x → ys[i]? = some y → R x y) → All2 R xs ys := by
  induction xs with
  | nil => intro ys hl _; cases ys with
    | nil => exact .nil
    | cons => simp at hl
  | cons x xs ih => intro ys hl h; cases ys with
    | nil => simp at hl
    | cons y ys => exact .cons (h 0 x y rfl rfl) (ih (by simpa using hl) fun i a b ha hb => h (i + 1) a b (by simpa using ha) (by simpa using hb))
inductive D where
  | lit (v : Value)
  | sl (es : List (List D))
instance : Inhabited D := ⟨.lit (.bool false)⟩
def scal : Value → Bool
  | .bool _ | .int .. | .float .. | .complex .. | .string _ | .pointer none | .map none | .chan none | .nilFunc | .nilIface => true
  | _ => false
theorem scal_one {v : Value} (h : scal v = true) : v.oneCell' = true := by
  cases v <;> simp_all [scal, Value.oneCell']
inductive RelD (w : World) (St : Nat → Prop) : D → Value → Prop
  | lit (v : Value) (h : scal v = true) : RelD w St (.lit v) v
  | sl (es : List (List D)) (a : Option Addr) (cap sz : Nat) (c : Nat → Nat → Value)
      (hcap : es.length ≤ cap) (hmax : cap ≤ maxLen) (hsz : ∀ e, e ∈ es → e.length = sz)
      (ha : es ≠ [] → ∃ b o, a = some ⟨b, o, none⟩ ∧ St b ∧ ∀ i e, es[i]? = some e → ∀ j x, e[j]? = some x → w.cell? ⟨b, o + (i * sz + j), none⟩ = some (c i j))
      (hr : ∀ i e, es[i]? = some e → ∀ j x, e[j]? = some x → RelD w St x (c i j)) :
      RelD w St (.sl es) (.slice a es.length cap)
def RelRow (w : World) (St : Nat → Prop) (es : List (List D)) (b o sz : Nat) : Prop :=
  (∀ e, e ∈ es → e.length = sz) ∧ ∀ i e, es[i]? = some e → ∀ j x, e[j]? = some x → ∃ u, w.cell? ⟨b, o + (i * sz + j), none⟩ = some u ∧ RelD w St x u
def RelSl (w : World) (St : Nat → Prop) (Q : Nat → Prop) (es : List (List D)) (v : Value) : Prop :=
  ∃ a cap, v = .slice a es.length cap ∧ es.length ≤ cap ∧ cap ≤ maxLen ∧ (es ≠ [] → ∃ b o sz, a = some ⟨b, o, none⟩ ∧ Q b ∧ RelRow w St es b o sz)
theorem RelD.sl_iff {w : World} {St : Nat → Prop} {es : List (List D)} {v : Value} : RelD w St (.sl es) v ↔ RelSl w St St es v := by
  constructor
  · intro h
    cases h with
    | sl _ a cap sz c hcap hmax hsz ha hr =>
      refine ⟨a, cap, rfl, hcap, hmax, fun hne => ?_⟩
      obtain ⟨b, o, rfl, hb, hc⟩ := ha hne
      exact ⟨b, o, sz, rfl, hb, hsz, fun i e he j x hx => ⟨_, hc i e he j x hx, hr i e he j x hx⟩⟩
  · rintro ⟨a, cap, rfl, hcap, hmax, h⟩
    by_cases hne : es = []
    · subst hne
      exact .sl [] a cap 0 (fun _ _ => undef) hcap hmax (by simp) (by simp) (by simp)
    · obtain ⟨b, o, sz, rfl, hb, hsz, hrow⟩ := h hne
      refine .sl es _ cap sz (fun i j => (w.cell? ⟨b, o + (i * sz + j), none⟩).getD undef) hcap hmax hsz (fun _ => ⟨b, o, rfl, hb, fun i e he j x hx => ?_⟩) (fun i e he j x hx => ?_)
      · obtain ⟨u, hu, _⟩ := hrow i e he j x hx
        rw [hu]; rfl
      · obtain ⟨u, hu, hr⟩ := hrow i e he j x hx
        rw [hu]; exact hr
theorem RelD.mv {w w' : World} {St St' : Nat → Prop} (h : ∀ b, St b → St' b ∧ w'.heap[b]? = w.heap[b]?) {x : D} {v : Value} (hx : RelD w St x v) : RelD w' St' x v := by
  induction hx with
  | lit v h => exact .lit v h
  | sl es a cap sz c hcap hmax hsz ha hr ih =>
    refine .sl es a cap sz c hcap hmax hsz (fun hne => ?_) ih
    obtain ⟨b, o, e, hb, hc⟩ := ha hne
    exact ⟨b, o, e, (h b hb).1, fun i e he j x hx => by rw [World.cell?_of_block (w := w) (w' := w') (by exact (h b hb).2)]; exact hc i e he j x hx⟩
theorem RelD.one {w : World} {St : Nat → Prop} {x : D} {v : Value} (hx : RelD w St x v) : v.oneCell' = true := by
  cases hx with
  | lit v h => exact scal_one h
  | sl => rfl
theorem RelRow.mv {w w' : World} {St St' : Nat → Prop} (h : ∀ b, St b → St' b ∧ w'.heap[b]? = w.heap[b]?) {es : List (List D)} {b o sz : Nat}
    (hb : w'.heap[b]? = w.heap[b]?) (hx : RelRow w St es b o sz) : RelRow w' St' es b o sz :=
  ⟨hx.1, fun i e he j x hj => by
    obtain ⟨u, hu, hr⟩ := hx.2 i e he j x hj
    exact ⟨u, by rw [World.cell?_of_block (w := w) (w' := w') hb]; exact hu, hr.mv h⟩⟩
inductive AV where
  | d (x : D)
  | full (es : List (List D))
  | bo (es : List (List D))
  | mp (k : Nat)
  | ref (k lo len : Nat)
  | ptr (k i off : Nat)
  | dp (cs : List D)
  | fn (f : Nat) (caps : List (Nat × Nat × Nat))
  | undef
  | dead (ks : List Nat)
  | agg (cs : List AV)
  | tup (vs : List AV)
instance : Inhabited AV := ⟨.undef⟩
def AV.isU : AV → Bool
  | .undef | .dead _ | .mp _ | .agg _ | .tup _ => true
  | _ => false
inductive Ob where
  | box (cs : List AV)
  | row (sz : Nat) (es : List (List D))
  | raw (x : Go.Obj)
structure Loc where
  b : Option Nat
  o : Nat
  sz : Nat
  cap : Nat
abbrev Mm := Nat → Option Ob
abbrev Lc := Nat → Loc
def Free (M : Mm) (bl : Lc) (b : Nat) : Prop := ∀ k o, M k = some o → (bl k).b ≠ some b
def RelP (M : Mm) (bl : Lc) (k i off : Nat) (v : Value) : Prop :=
  ∃ b o, M k = some o ∧ (bl k).b = some b ∧ v = .pointer (some ⟨b, (bl k).o + (i * (bl k).sz + off), none⟩)
def RelC (w : World) (St : Nat → Prop) (M : Mm) (bl : Lc) : AV → Value → Prop
  | .d x, v => RelD w St x v
  | .full es, v => RelD w St (.sl es) v ∧ ∃ a, v = .slice a es.length es.length
  | .bo es, v => RelSl w St (fun b => Free M bl b ∧ b < w.heap.size) es v
  | .ref k lo len, v => ∃ sz es a, M k = some (.row sz es) ∧ lo + len ≤ es.length ∧ v = .slice a len ((bl k).cap - lo) ∧
      (lo < (bl k).cap → ∃ b, (bl k).b = some b ∧ a = some ⟨b, (bl k).o + lo * (bl k).sz, none⟩)
  | .ptr k i off, v => RelP M bl k i off v
  | .dp cs, v => ∃ b o, v = .pointer (some ⟨b, o, none⟩) ∧ Free M bl b ∧ b < w.heap.size ∧ ∀ j x, cs[j]? = some x → ∃ u, w.cell? ⟨b, o + j, none⟩ = some u ∧ RelD w St x u
  | .fn f caps, v => ∃ vs : List Value, v = .func (.func f) #[] vs.toArray ∧ All2 (fun (c : Nat × Nat × Nat) u => RelP M bl c.1 c.2.1 c.2.2 u) caps vs
  | .undef, _ | .dead _, _ => True
  | .mp k, v => ∃ b o, M k = some o ∧ (bl k).b = some b ∧ v = .map (some b)
  | .agg _, _ | .tup _, _ => False
def RelT (w : World) (St : Nat → Prop) (M : Mm) (bl : Lc) : AV → Value → Prop
  | .agg cs, v => ∃ vs : List Value, v = .agg vs.toArray ∧ All2 (RelC w St M bl) cs vs ∧ ∀ u ∈ vs, u.oneCell' = true
  | x, v => RelC w St M bl x v
def RelV (w : World) (St : Nat → Prop) (M : Mm) (bl : Lc) : AV → Value → Prop
  | .tup xs, v => ∃ vs : List Value, v = .tuple vs.toArray ∧ All2 (RelT w St M bl) xs vs
  | x, v => RelT w St M bl x v
def AV.keys1 : AV → List Nat
  | .ref k _ _ => [k]
  | .ptr k _ _ => [k]
  | .mp k => [k]
  | .fn _ caps => caps.map (·.1)
  | .dead ks => ks
  | _ => []
def AV.keys2 : AV → List Nat
  | .agg cs => cs.flatMap AV.keys1
  | x => x.keys1
def AV.keys : AV → List Nat
  | .tup vs => vs.flatMap AV.keys2
  | x => x.keys2
theorem keys1_sub {v : AV} : ∀ k ∈ v.keys1, k ∈ v.keys := by
  intro k hk
  cases v <;> first | exact hk | simp [AV.keys1] at hk
def Ob.like : Ob → Ob → Prop
  | .row sz es, .row sz' es' => sz = sz' ∧ es.length = es'.length
  | .box _, .box _ => True
  | .raw _, .raw _ => True
  | _, _ => False
structure Mv (w : World) (St : Nat → Prop) (M : Mm) (bl : Lc) (w' : World) (St' : Nat → Prop) (M' : Mm) (bl' : Lc) (X : Nat → Prop) : Prop where
  st : ∀ b, St b → St' b ∧ w'.heap[b]? = w.heap[b]?
  fr : ∀ b, b < w.heap.size → Free M bl b → Free M' bl' b ∧ w'.heap[b]? = w.heap[b]?
  sz : w.heap.size ≤ w'.heap.size
  key : ∀ k o, ¬ X k → M k = some o → (∃ o', M' k = some o' ∧ o.like o') ∧ bl' k = bl k
section
variable {w w' : World} {St St' : Nat → Prop} {M M' : Mm} {bl bl' : Lc} {X : Nat → Prop}
theorem RelP.mv (h : Mv w St M bl w' St' M' bl' X) {k i off : Nat} {v : Value} (hk : ¬ X k) (hv : RelP M bl k i off v) : RelP M' bl' k i off v := by
  obtain ⟨b, o, hm, hb, rfl⟩ := hv
  obtain ⟨⟨o', hm', _⟩, he⟩ := h.key k o hk hm
  exact ⟨b, o', hm', by rw [he]; exact hb, by rw [he]⟩
theorem forall2_imp {α β : Type} {R S : α → β → Prop} {xs : List α} {ys : List β} (h : All2 R xs ys) (hi : ∀ x y, x ∈ xs → R x y → S x y) : All2 S xs ys := by
  induction h with
  | nil => exact .nil
  | cons hr _ ih => exact .cons (hi _ _ (List.mem_cons_self ..) hr) (ih fun x y hx => hi x y (List.mem_cons_of_mem _ hx))
theorem RelSl.mv {Q Q' : Nat → Prop} (h : ∀ b, St b → St' b ∧ w'.heap[b]? = w.heap[b]?) (hq : ∀ b, Q b → Q' b ∧ w'.heap[b]? = w.heap[b]?) {es : List (List D)} {v : Value}
    (hv : RelSl w St Q es v) : RelSl w' St' Q' es v := by
  obtain ⟨a, cap, rfl, h1, h2, h3⟩ := hv
  refine ⟨a, cap, rfl, h1, h2, fun hne => ?_⟩
  obtain ⟨b, o, sz, rfl, hb, hr⟩ := h3 hne
  exact ⟨b, o, sz, rfl, (hq b hb).1, hr.mv h (hq b hb).2⟩
theorem RelC.mv (h : Mv w St M bl w' St' M' bl' X) {x : AV} {v : Value} (hk : ∀ k ∈ x.keys1, ¬ X k) (hv : RelC w St M bl x v) : RelC w' St' M' bl' x v := by
  cases x with
  | d x => exact RelD.mv h.st hv
  | full es => exact ⟨RelD.mv h.st hv.1, hv.2⟩
  | bo es => exact RelSl.mv h.st (fun b hb => ⟨⟨(h.fr b hb.2 hb.1).1, Nat.lt_of_lt_of_le hb.2 h.sz⟩, (h.fr b hb.2 hb.1).2⟩) hv
  | mp k =>
    obtain ⟨b, o, hm, hb, rfl⟩ := hv
    obtain ⟨⟨o', hm', _⟩, he⟩ := h.key k o (hk k (by simp [AV.keys1])) hm
    exact ⟨b, o', hm', by rw [he]; exact hb, rfl⟩
  | ref k lo len =>
    obtain ⟨sz, es, a, hm, hl, rfl, ha⟩ := hv
    obtain ⟨⟨o', hm', hlike⟩, he⟩ := h.key k _ (hk k (by simp [AV.keys1])) hm
    cases o' with
    | box cs => exact hlike.elim
    | raw x => exact hlike.elim
    | row sz' es' => exact ⟨sz', es', a, hm', by have : es.length = es'.length := hlike.2
                                                 omega, by rw [he], by rw [he]; exact ha⟩
  | ptr k i off => exact RelP.mv h (hk k (by simp [AV.keys1])) hv
  | dp cs =>
    obtain ⟨b, o, rfl, hf, hlt, hc⟩ := hv
    refine ⟨b, o, rfl, (h.fr b hlt hf).1, Nat.lt_of_lt_of_le hlt h.sz, fun j x hx => ?_⟩
    obtain ⟨u, hu, hr⟩ := hc j x hx
    exact ⟨u, by rw [World.cell?_of_block (w := w) (w' := w') (by exact (h.fr b hlt hf).2)]; exact hu, hr.mv h.st⟩
  | fn f caps =>
    obtain ⟨vs, rfl, hc⟩ := hv
    exact ⟨vs, rfl, forall2_imp hc fun c u hcm hu => RelP.mv h (hk c.1 (List.mem_map.2 ⟨c, hcm, rfl⟩)) hu⟩
  | undef => trivial
  | dead ks => trivial
  | agg cs => exact hv
  | tup vs => exact hv
theorem RelT_c {x : AV} (hx : ∀ cs, x ≠ .agg cs) (v : Value) : RelT w St M bl x v = RelC w St M bl x v ∧ x.keys2 = x.keys1 := by
  cases x <;> first | exact ⟨rfl, rfl⟩ | exact absurd rfl (hx _)
theorem RelV_t {x : AV} (hx : ∀ cs, x ≠ .tup cs) (v : Value) : RelV w St M bl x v = RelT w St M bl x v ∧ x.keys = x.keys2 := by
  cases x <;> first | exact ⟨rfl, rfl⟩ | exact absurd rfl (hx _)
theorem RelT.mv (h : Mv w St M bl w' St' M' bl' X) {x : AV} {v : Value} (hk : ∀ k ∈ x.keys2, ¬ X k) (hv : RelT w St M bl x v) : RelT w' St' M' bl' x v := by
  by_cases hx : ∃ cs, x = .agg cs
  · obtain ⟨cs, rfl⟩ := hx
    obtain ⟨vs, rfl, hc, h1⟩ := hv
    exact ⟨vs, rfl, forall2_imp hc fun c u hcm hu => RelC.mv h (fun k hk' => hk k (List.mem_flatMap.2 ⟨c, hcm, hk'⟩)) hu, h1⟩
  · have hx' : ∀ cs, x ≠ .agg cs := fun cs e => hx ⟨cs, e⟩
    rw [(RelT_c hx' v).1] at hv ⊢
    rw [(RelT_c (w := w) (St := St) (M := M) (bl := bl) hx' v).2] at hk
    exact RelC.mv h hk hv
theorem RelV.mv (h : Mv w St M bl w' St' M' bl' X) {x : AV} {v : Value} (hk : ∀ k ∈ x.keys, ¬ X k) (hv : RelV w St M bl x v) : RelV w' St' M' bl' x v := by
  by_cases hx : ∃ cs, x = .tup cs
  · obtain ⟨cs, rfl⟩ := hx
    obtain ⟨us, rfl, hc⟩ := hv
    exact ⟨us, rfl, forall2_imp hc fun c u hcm hu => RelT.mv h (fun k hk' => hk k (List.mem_flatMap.2 ⟨c, hcm, hk'⟩)) hu⟩
  · have hx' : ∀ cs, x ≠ .tup cs := fun cs e => hx ⟨cs, e⟩
    rw [(RelV_t hx' v).1] at hv ⊢
    rw [(RelV_t (w := w) (St := St) (M := M) (bl := bl) hx' v).2] at hk
    exact RelT.mv h hk hv
theorem RelC.one {x : AV} {v : Value} (hx : x.isU = false) (h : RelC w St M bl x v) : v.oneCell' = true := by
  cases x with
  | d x => exact RelD.one h
  | full es => exact RelD.one h.1
  | bo es => obtain ⟨a, c, rfl, _⟩ := h; rfl
  | ref k lo len => obtain ⟨sz, es, a, _, _, rfl, _⟩ := h; rfl
  | ptr k i off => obtain ⟨b, o, _, _, rfl⟩ := h; rfl
  | dp cs => obtain ⟨b, o, rfl, _⟩ := h; rfl
  | fn f caps => obtain ⟨vs, rfl, _⟩ := h; rfl
  | undef => cases hx
  | dead => cases hx
  | mp k => cases hx
  | agg cs => cases hx
  | tup vs => cases hx
theorem RelV.of_c {x : AV} {v : Value} (h : RelC w St M bl x v) : RelV w St M bl x v := by
  cases x <;> first | exact h | exact h.elim
theorem RelT.of_c {x : AV} {v : Value} (h : RelC w St M bl x v) : RelT w St M bl x v := by
  cases x <;> first | exact h | exact h.elim
theorem RelV.of_t {x : AV} {v : Value} (h : RelT w St M bl x v) : RelV w St M bl x v := by
  cases x <;> first | exact h | exact h.elim
end
def ObRel (w : World) (St : Nat → Prop) (M : Mm) (bl : Lc) (k : Nat) : Ob → Prop
  | .box cs => ∃ b c e, (bl k).b = some b ∧ (bl k).o = 0 ∧ w.heap[b]? = some (.cells c e (0, 0)) ∧ All2 (RelC w St M bl) cs c.toList
  | .row sz es => ((bl k).b = none ∧ es = [] ∧ (bl k).cap = 0) ∨
      ∃ b c e, (bl k).sz = sz ∧ (bl k).b = some b ∧ w.heap[b]? = some (.cells c e (0, 0)) ∧ c.size = (bl k).o + (bl k).cap * (bl k).sz ∧ es.length ≤ (bl k).cap ∧ (bl k).cap ≤ maxLen ∧ RelRow w St es b (bl k).o (bl k).sz
  | .raw x => ∃ b, (bl k).b = some b ∧ (bl k).o = 0 ∧ w.heap[b]? = some x
structure Mem (w : World) (St : Nat → Prop) (M : Mm) (bl : Lc) : Prop where
  st : ∀ b, St b → b < w.heap.size ∧ Free M bl b
  ob : ∀ k o, M k = some o → ObRel w St M bl k o
  inj : ∀ k k' o o' b, M k = some o → M k' = some o' → (bl k).b = some b → (bl k').b = some b → k = k'
end Go.Pw

namespace Go.Pw
open Go
def upd {α : Type} (f : Nat → α) (k : Nat) (v : α) : Nat → α := fun x => if x = k then v else f x
theorem upd_same {α : Type} (f : Nat → α) (k : Nat) (v : α) : upd f k v k = v := by simp [upd]
theorem upd_ne {α : Type} (f : Nat → α) {k x : Nat} (v : α) (h : x ≠ k) : upd f k v x = f x := by simp [upd, h]
def scr (X : List Nat) (v : AV) : AV := if v.keys.any (fun k => X.contains k) then .dead v.keys else v
def Ob.scr (X : List Nat) : Ob → Ob
  | .box cs => .box (cs.map (Pw.scr X))
  | o => o
def scrM (X : List Nat) (M : Mm) : Mm := fun k => (M k).map (Ob.scr X)
theorem scr_cases (X : List Nat) (v : AV) : scr X v = .dead v.keys ∨ (scr X v = v ∧ ∀ k ∈ v.keys, k ∉ X) := by
  unfold scr
  split
  · exact .inl rfl
  · rename_i h
    refine .inr ⟨rfl, fun k hk hX => h ?_⟩
    rw [List.any_eq_true]
    exact ⟨k, hk, by simpa using hX⟩
structure S where
  tm : Nat → AV
  M : Mm
structure Ctx where
  n : Nat
  w0 : World
  St0 : Nat → Prop
  R0 : Nat → Prop
  bl0 : Lc
structure Frm (cx : Ctx) (w : World) (St : Nat → Prop) (M : Mm) (bl : Lc) : Prop where
  sz : cx.w0.heap.size ≤ w.heap.size
  pres : ∀ b, b < cx.w0.heap.size → ¬ cx.R0 b → w.heap[b]? = cx.w0.heap[b]?
  own : ∀ k o b, M k = some o → (bl k).b = some b → cx.w0.heap.size ≤ b ∨ (1000 ≤ k ∧ k < 2000 ∧ cx.R0 b ∧ (cx.bl0 k).b = some b)
  st0 : ∀ b, cx.St0 b → St b
  st : ∀ b, St b → cx.St0 b ∨ cx.w0.heap.size ≤ b
  os : w.os = cx.w0.os
  tape : w.tape = cx.w0.tape
  output : w.output = cx.w0.output
  rb : ∀ k o, M k = some o → 1000 ≤ k → k < 2000 → bl k = cx.bl0 k
structure Sim1 (cx : Ctx) (s : S) (a : Act) (w : World) (St : Nat → Prop) (bl : Lc) : Prop where
  mem : Mem w St s.M bl
  frm : Frm cx w St s.M bl
  tm : ∀ t, RelV w St s.M bl (s.tm t) (a.tmps.getD t undef)
  n : a.tmps.size = cx.n
  df : a.defers = []
def Sim (cx : Ctx) (s : S) (a : Act) (w : World) : Prop := ∃ St bl, Sim1 cx s a w St bl
theorem ObRel.mv {w w' : World} {St St' : Nat → Prop} {M M' : Mm} {bl bl' : Lc} {X : List Nat} (mv : Mv w St M bl w' St' M' bl' (· ∈ X)) {k : Nat} {o : Ob}
    (hk : bl' k = bl k) (hb : ∀ b, (bl k).b = some b → w'.heap[b]? = w.heap[b]?) (h : ObRel w St M bl k o) : ObRel w' St' M' bl' k (o.scr X) := by
  cases o with
  | box cs =>
    obtain ⟨b, c, e, h1, h2, h3, h4⟩ := h
    refine ⟨b, c, e, by rw [hk]; exact h1, by rw [hk]; exact h2, (hb b h1).trans h3, ?_⟩
    refine All2.of_get (by simpa using h4.length) fun i x y hx hy => ?_
    rw [List.getElem?_map] at hx
    cases hc : cs[i]? with
    | none => rw [hc] at hx; cases hx
    | some c0 =>
      rw [hc] at hx; cases hx
      obtain ⟨y', hy', hr⟩ := h4.get i c0 hc
      rw [hy] at hy'; cases hy'
      rcases scr_cases X c0 with e | ⟨e, hn⟩
      · rw [e]; trivial
      · rw [e]
        refine RelC.mv mv (fun k hk' => hn k ?_) hr
        cases c0 <;> first | exact hk' | exact hr.elim
  | raw x =>
    obtain ⟨b, h1, h2, h3⟩ := h
    exact ⟨b, by rw [hk]; exact h1, by rw [hk]; exact h2, (hb b h1).trans h3⟩
  | row sz es =>
    rcases h with ⟨h1, h2, h3⟩ | ⟨b, c, e, h0, h1, h2, h3, h4, h5, h6⟩
    · exact .inl ⟨by rw [hk]; exact h1, h2, by rw [hk]; exact h3⟩
    · exact .inr ⟨b, c, e, by rw [hk]; exact h0, by rw [hk]; exact h1, (hb b h1).trans h2, by rw [hk]; exact h3, by rw [hk]; exact h4, by rw [hk]; exact h5, by rw [hk]; exact h6.mv mv.st (hb b h1)⟩
theorem Mem.mv {w w' : World} {St St' : Nat → Prop} {M M' : Mm} {bl bl' : Lc} {X : List Nat} (h : Mem w St M bl) (mv : Mv w St M bl w' St' M' bl' (· ∈ X))
    (st' : ∀ b, St' b → b < w'.heap.size ∧ Free M' bl' b)
    (ob' : ∀ k o', M' k = some o' → ObRel w' St' M' bl' k o' ∨ ∃ o, M k = some o ∧ o' = o.scr X ∧ bl' k = bl k ∧ ∀ b, (bl k).b = some b → w'.heap[b]? = w.heap[b]?)
    (inj' : ∀ k k' o o' b, M' k = some o → M' k' = some o' → (bl' k).b = some b → (bl' k').b = some b → k = k') : Mem w' St' M' bl' := by
  refine ⟨st', fun k o' ho => ?_, inj'⟩
  rcases ob' k o' ho with h1 | ⟨o, hm, rfl, hk, hb⟩
  · exact h1
  · exact (h.ob k o hm).mv mv hk hb
theorem Sim1.step {cx : Ctx} {s : S} {a : Act} {w w' : World} {St St' : Nat → Prop} {bl bl' : Lc} {M' : Mm} {X : List Nat} (h : Sim1 cx s a w St bl)
    (mv : Mv w St s.M bl w' St' M' bl' (· ∈ X)) (mem : Mem w' St' M' bl') (frm : Frm cx w' St' M' bl') {d : Nat} {v : AV} {u : Value} (hd : d < cx.n) (hv : RelV w' St' M' bl' v u) :
    Sim1 cx ⟨upd (fun t => scr X (s.tm t)) d v, M'⟩ (a.put (some d) u) w' St' bl' := by
  refine ⟨mem, frm, fun t => ?_, by simp [Act.put, h.n], h.df⟩
  by_cases ht : t = d
  · subst ht
    have hs : t < a.tmps.size := by rw [h.n]; exact hd
    simp only [upd_same, Act.put]
    rw [Array.getD_eq_getD_getElem?, Array.getElem?_setIfInBounds_self_of_lt hs]
    exact hv
  · simp only [upd_ne _ _ ht, Act.put]
    rw [Array.getD_eq_getD_getElem?, Array.getElem?_setIfInBounds_ne (Ne.symm ht), ← Array.getD_eq_getD_getElem?]
    rcases scr_cases X (s.tm t) with e | ⟨e, hn⟩
    · rw [e]; trivial
    · rw [e]; exact RelV.mv mv hn (h.tm t)
theorem Sim1.step0 {cx : Ctx} {s : S} {a : Act} {w w' : World} {St St' : Nat → Prop} {bl bl' : Lc} {M' : Mm} {X : List Nat} (h : Sim1 cx s a w St bl)
    (mv : Mv w St s.M bl w' St' M' bl' (· ∈ X)) (mem : Mem w' St' M' bl') (frm : Frm cx w' St' M' bl') :
    Sim1 cx ⟨fun t => scr X (s.tm t), M'⟩ a w' St' bl' := by
  refine ⟨mem, frm, fun t => ?_, h.n, h.df⟩
  dsimp only
  rcases scr_cases X (s.tm t) with e | ⟨e, hn⟩
  · rw [e]; trivial
  · rw [e]; exact RelV.mv mv hn (h.tm t)
theorem scr_nil (v : AV) : scr [] v = v := by simp [scr]
theorem scr_nil' (f : Nat → AV) : (fun t => scr [] (f t)) = f := by funext t; exact scr_nil _
theorem Ob.scr_nil (o : Ob) : o.scr [] = o := by
  cases o with
  | box cs => simp only [Ob.scr]; congr 1; rw [List.map_congr_left (g := id) fun a _ => Pw.scr_nil a, List.map_id]
  | row sz es => rfl
  | raw x => rfl
theorem scrM_nil (M : Mm) : scrM [] M = M := by
  funext k; simp only [scrM]; cases M k with
  | none => rfl
  | some o => simp [Ob.scr_nil]
theorem Ob.like_refl (o : Ob) : o.like o := by cases o <;> simp [Ob.like]
theorem Ob.like_scr (X : List Nat) (o : Ob) : o.like (o.scr X) := by cases o <;> simp [Ob.like, Ob.scr]
theorem Mv.refl (w : World) (St : Nat → Prop) (M : Mm) (bl : Lc) : Mv w St M bl w St M bl (· ∈ ([] : List Nat)) :=
  ⟨fun _ h => ⟨h, rfl⟩, fun _ _ h => ⟨h, rfl⟩, Nat.le_refl _, fun k o _ hm => ⟨⟨o, hm, o.like_refl⟩, rfl⟩⟩
theorem Mem.of_heap {w w' : World} {St : Nat → Prop} {M : Mm} {bl : Lc} (hh : w'.heap = w.heap) (h : Mem w St M bl) : Mem w' St M bl :=
  h.mv (X := []) ⟨fun b hb => ⟨hb, by rw [hh]⟩, fun b _ hf => ⟨hf, by rw [hh]⟩, by rw [hh]; exact Nat.le_refl _, fun k o _ hm => ⟨⟨o, hm, o.like_refl⟩, rfl⟩⟩
    (fun b hb => by rw [hh]; exact h.st b hb) (fun k o hm => .inr ⟨o, hm, (Ob.scr_nil o).symm, rfl, fun b _ => by rw [hh]⟩) h.inj
theorem Frm.of_heap {cx : Ctx} {w w' : World} {St : Nat → Prop} {M : Mm} {bl : Lc} (hh : w'.heap = w.heap) (h1 : w'.os = w.os) (h2 : w'.tape = w.tape) (h3 : w'.output = w.output) (h : Frm cx w St M bl) : Frm cx w' St M bl :=
  ⟨by rw [hh]; exact h.sz, fun b hb hr => by rw [hh]; exact h.pres b hb hr, h.own, h.st0, h.st, h1.trans h.os, h2.trans h.tape, h3.trans h.output, h.rb⟩
theorem mv_of_heap {w w' : World} {St : Nat → Prop} {M : Mm} {bl : Lc} (hh : w'.heap = w.heap) : Mv w St M bl w' St M bl (· ∈ ([] : List Nat)) :=
  ⟨fun b hb => ⟨hb, by rw [hh]⟩, fun b _ hf => ⟨hf, by rw [hh]⟩, by rw [hh]; exact Nat.le_refl _, fun k o _ hm => ⟨⟨o, hm, o.like_refl⟩, rfl⟩⟩
theorem Sim1.pure {cx : Ctx} {s : S} {a : Act} {w : World} {St : Nat → Prop} {bl : Lc} (h : Sim1 cx s a w St bl) {d : Nat} {v : AV} {u : Value} (hd : d < cx.n) (hv : RelV w St s.M bl v u) :
    Sim1 cx ⟨upd s.tm d v, s.M⟩ (a.put (some d) u) w St bl := by
  have := h.step (X := []) (Mv.refl w St s.M bl) h.mem h.frm hd hv
  rwa [scr_nil'] at this
theorem Mem.blt {w : World} {St : Nat → Prop} {M : Mm} {bl : Lc} (h : Mem w St M bl) {k : Nat} {o : Ob} {b : Nat} (hm : M k = some o) (hb : (bl k).b = some b) : b < w.heap.size := by
  cases o with
  | box cs =>
    obtain ⟨b', c', e', h1, _, h3, _⟩ := h.ob k _ hm
    rw [hb] at h1; cases h1
    exact (Array.getElem?_eq_some_iff.1 h3).1
  | raw x =>
    obtain ⟨b', h1, _, h3⟩ := h.ob k _ hm
    rw [hb] at h1; cases h1
    exact (Array.getElem?_eq_some_iff.1 h3).1
  | row sz es =>
    rcases h.ob k _ hm with ⟨h1, _⟩ | ⟨b', c', e', _, h1, h3, _⟩
    · rw [hb] at h1; cases h1
    · rw [hb] at h1; cases h1
      exact (Array.getElem?_eq_some_iff.1 h3).1
end Go.Pw

namespace Go.Pw
open Go
theorem scrM_some {X : List Nat} {M : Mm} {k : Nat} {o' : Ob} (h : scrM X M k = some o') : ∃ o, M k = some o ∧ o' = o.scr X := by
  simp only [scrM] at h
  cases hm : M k with
  | none => rw [hm] at h; cases h
  | some o => rw [hm] at h; cases h; exact ⟨o, rfl, rfl⟩
theorem scrM_of {X : List Nat} {M : Mm} {k : Nat} {o : Ob} (h : M k = some o) : scrM X M k = some (o.scr X) := by simp [scrM, h]
theorem Sim1.obj {cx : Ctx} {s : S} {a : Act} {w w' : World} {St : Nat → Prop} {bl : Lc} (h : Sim1 cx s a w St bl) {k : Nat} {ob' : Ob} {l : Loc} {X : List Nat}
    (hos : w'.os = w.os) (htape : w'.tape = w.tape) (hout : w'.output = w.output) (hsz : w.heap.size ≤ w'.heap.size)
    (hblk : ∀ b, b < w.heap.size → (∀ o, s.M k = some o → (bl k).b ≠ some b) → w'.heap[b]? = w.heap[b]?)
    (hl : ∀ b, l.b = some b → (w.heap.size ≤ b ∧ b < w'.heap.size) ∨ ∃ o, s.M k = some o ∧ (bl k).b = some b)
    (hX : k ∈ X ∨ (bl k = l ∧ ∀ o, s.M k = some o → o.like ob') ∨ s.M k = none)
    (hrb : 1000 ≤ k → k < 2000 → l = bl k ∧ ∃ o, s.M k = some o)
    (hob : ∀ (M' : Mm) (bl' : Lc), M' = upd (scrM X s.M) k ob' → bl' = upd bl k l → Mv w St s.M bl w' St M' bl' (· ∈ X) → ObRel w' St M' bl' k ob') :
    Mv w St s.M bl w' St (upd (scrM X s.M) k ob') (upd bl k l) (· ∈ X) ∧ Mem w' St (upd (scrM X s.M) k ob') (upd bl k l) ∧ Frm cx w' St (upd (scrM X s.M) k ob') (upd bl k l) := by
  have hother : ∀ k' o b, k' ≠ k → s.M k' = some o → (bl k').b = some b → w'.heap[b]? = w.heap[b]? := fun k' o b hne hm hb =>
    hblk b (h.mem.blt hm hb) fun o2 hm2 hb2 => hne (h.mem.inj _ _ _ _ _ hm hm2 hb hb2)
  have hfree : ∀ b, b < w.heap.size → Free s.M bl b → Free (upd (scrM X s.M) k ob') (upd bl k l) b := by
    intro b hb hf k' o hm
    by_cases e : k' = k
    · subst e
      rw [upd_same]
      intro h1
      rcases hl b h1 with h2 | ⟨o2, h2, h3⟩
      · omega
      · exact hf _ _ h2 h3
    · rw [upd_ne _ _ e] at hm
      obtain ⟨o2, hm2, rfl⟩ := scrM_some hm
      rw [upd_ne _ _ e]
      exact hf _ _ hm2
  have mv : Mv w St s.M bl w' St (upd (scrM X s.M) k ob') (upd bl k l) (· ∈ X) := by
    refine ⟨fun b hb => ⟨hb, ?_⟩, fun b hb hf => ⟨hfree b hb hf, hblk b hb fun o hm => hf k o hm⟩, hsz, fun k' o hx hm => ?_⟩
    · exact hblk b (h.mem.st b hb).1 fun o hm => (h.mem.st b hb).2 k o hm
    · by_cases e : k' = k
      · subst e
        rcases hX with h1 | ⟨h1, h2⟩ | h1
        · exact absurd h1 hx
        · exact ⟨⟨ob', upd_same .., h2 o hm⟩, by rw [upd_same, h1]⟩
        · rw [hm] at h1; cases h1
      · exact ⟨⟨o.scr X, by rw [upd_ne _ _ e]; exact scrM_of hm, o.like_scr X⟩, upd_ne _ _ e⟩
  refine ⟨mv, h.mem.mv mv (fun b hb => ⟨Nat.lt_of_lt_of_le (h.mem.st b hb).1 hsz, hfree b (h.mem.st b hb).1 (h.mem.st b hb).2⟩) (fun k' o' hm => ?_) ?_, ?_⟩
  · by_cases e : k' = k
    · subst e; rw [upd_same] at hm; cases hm
      exact .inl (hob _ _ rfl rfl mv)
    · rw [upd_ne _ _ e] at hm
      obtain ⟨o, hm2, rfl⟩ := scrM_some hm
      exact .inr ⟨o, hm2, rfl, upd_ne _ _ e, fun b hb => hother k' o b e hm2 hb⟩
  · have one : ∀ k' o b, k' ≠ k → upd (scrM X s.M) k ob' k' = some o → (upd bl k l k').b = some b → l.b = some b → False := by
      intro k' o b e hm hb hlb
      rw [upd_ne _ _ e] at hm hb
      obtain ⟨o2, hm2, rfl⟩ := scrM_some hm
      rcases hl b hlb with h1 | ⟨o3, h3, h4⟩
      · have := h.mem.blt hm2 hb; omega
      · exact e (h.mem.inj _ _ _ _ _ hm2 h3 hb h4)
    intro k1 k2 o1 o2 b h1 h2 hb1 hb2
    by_cases e1 : k1 = k
    · by_cases e2 : k2 = k
      · rw [e1, e2]
      · subst e1; rw [upd_same] at hb1; exact (one k2 o2 b e2 h2 hb2 hb1).elim
    · by_cases e2 : k2 = k
      · subst e2; rw [upd_same] at hb2; exact (one k1 o1 b e1 h1 hb1 hb2).elim
      · rw [upd_ne _ _ e1] at h1 hb1
        rw [upd_ne _ _ e2] at h2 hb2
        obtain ⟨o1', h1', _⟩ := scrM_some h1
        obtain ⟨o2', h2', _⟩ := scrM_some h2
        exact h.mem.inj k1 k2 o1' o2' b h1' h2' hb1 hb2
  · refine ⟨Nat.le_trans h.frm.sz hsz, fun b hb hr => ?_, ?_, h.frm.st0, h.frm.st, hos.trans h.frm.os, htape.trans h.frm.tape, hout.trans h.frm.output, ?_⟩
    · refine (hblk b (Nat.lt_of_lt_of_le hb h.frm.sz) fun o hm hb2 => ?_).trans (h.frm.pres b hb hr)
      rcases h.frm.own k o b hm hb2 with h1 | ⟨_, _, h1, _⟩
      · omega
      · exact hr h1
    · intro k' o b hm hb
      by_cases e : k' = k
      · subst e
        rw [upd_same] at hb
        rcases hl b hb with h1 | ⟨o2, h2, h3⟩
        · exact .inl (Nat.le_trans h.frm.sz h1.1)
        · exact h.frm.own _ o2 b h2 h3
      · rw [upd_ne _ _ e] at hm hb
        obtain ⟨o2, hm2, _⟩ := scrM_some hm
        exact h.frm.own k' o2 b hm2 hb
    · intro k' cs hm h1 h2
      by_cases e : k' = k
      · subst e
        rw [upd_same] at hm ⊢
        obtain ⟨rfl, cs2, hm2⟩ := hrb h1 h2
        exact h.frm.rb _ cs2 hm2 h1 h2
      · rw [upd_ne _ _ e] at hm ⊢
        obtain ⟨o2, hm2, ho⟩ := scrM_some hm
        exact h.frm.rb k' o2 hm2 h1 h2
def dropM (Y : List Nat) (M : Mm) : Mm := fun k => if Y.contains k then none else (M k).map (Ob.scr Y)
theorem dropM_some {X : List Nat} {M : Mm} {k : Nat} {o' : Ob} (h : dropM X M k = some o') : k ∉ X ∧ ∃ o, M k = some o ∧ o' = o.scr X := by
  simp only [dropM] at h
  split at h
  · cases h
  · rename_i hc
    refine ⟨by simpa using hc, ?_⟩
    cases hm : M k with
    | none => rw [hm] at h; cases h
    | some o => rw [hm] at h; cases h; exact ⟨o, rfl, rfl⟩
theorem Sim1.freeze {cx : Ctx} {s : S} {a : Act} {w : World} {St : Nat → Prop} {bl : Lc} (h : Sim1 cx s a w St bl) (Y : List Nat) (hY : ∀ k ∈ Y, ¬ (1000 ≤ k ∧ k < 2000)) :
    ∃ St' : Nat → Prop, (∀ b, St b → St' b) ∧ (∀ k o b, k ∈ Y → s.M k = some o → (bl k).b = some b → St' b) ∧
      Mv w St s.M bl w St' (dropM Y s.M) bl (· ∈ Y) ∧ Mem w St' (dropM Y s.M) bl ∧ Frm cx w St' (dropM Y s.M) bl := by
  refine ⟨fun b => St b ∨ ∃ k o, k ∈ Y ∧ s.M k = some o ∧ (bl k).b = some b, fun b hb => .inl hb, fun k o b hk hm hb => .inr ⟨k, o, hk, hm, hb⟩, ?_⟩
  have hfree : ∀ b, Free s.M bl b → Free (dropM Y s.M) bl b := fun b hf k o hm => by
    obtain ⟨_, o2, hm2, _⟩ := dropM_some hm
    exact hf k o2 hm2
  have mv : Mv w St s.M bl w (fun b => St b ∨ ∃ k o, k ∈ Y ∧ s.M k = some o ∧ (bl k).b = some b) (dropM Y s.M) bl (· ∈ Y) :=
    ⟨fun b hb => ⟨.inl hb, rfl⟩, fun b _ hf => ⟨hfree b hf, rfl⟩, Nat.le_refl _, fun k o hx hm => ⟨⟨o.scr Y, by simp only [dropM]; rw [if_neg (by simpa using hx), hm]; rfl, o.like_scr Y⟩, rfl⟩⟩
  refine ⟨mv, h.mem.mv mv (fun b hb => ?_) (fun k o' hm => ?_) (fun k1 k2 o1 o2 b h1 h2 hb1 hb2 => ?_), ?_⟩
  · rcases hb with hb | ⟨k, o, hk, hm, hb⟩
    · exact ⟨(h.mem.st b hb).1, hfree b (h.mem.st b hb).2⟩
    · refine ⟨h.mem.blt hm hb, fun k' o' hm' hb' => ?_⟩
      obtain ⟨hn, o2, hm2, _⟩ := dropM_some hm'
      exact hn (h.mem.inj _ _ _ _ _ hm2 hm hb' hb ▸ hk)
  · obtain ⟨_, o, hm2, rfl⟩ := dropM_some hm
    exact .inr ⟨o, hm2, rfl, rfl, fun _ _ => rfl⟩
  · obtain ⟨_, o1', h1', _⟩ := dropM_some h1
    obtain ⟨_, o2', h2', _⟩ := dropM_some h2
    exact h.mem.inj _ _ _ _ _ h1' h2' hb1 hb2
  · refine ⟨h.frm.sz, h.frm.pres, fun k o b hm hb => ?_, fun b hb => .inl (h.frm.st0 b hb), fun b hb => ?_, h.frm.os, h.frm.tape, h.frm.output, fun k cs hm h1 h2 => ?_⟩
    · obtain ⟨_, o2, hm2, _⟩ := dropM_some hm
      exact h.frm.own k o2 b hm2 hb
    · rcases hb with hb | ⟨k, o, hk, hm, hb⟩
      · exact h.frm.st b hb
      · rcases h.frm.own k o b hm hb with h1 | ⟨h1, h2, _⟩
        · exact .inr h1
        · exact absurd ⟨h1, h2⟩ (hY k hk)
    · obtain ⟨_, o2, hm2, ho⟩ := dropM_some hm
      exact h.frm.rb k o2 hm2 h1 h2
theorem ref_data {w : World} {St St' : Nat → Prop} {M : Mm} {bl : Lc} (hm : Mem w St M bl) (hst : ∀ b, St b → St' b) {k lo len : Nat} {v : Value} {sz : Nat} {es : List (List D)}
    (hb : ∀ b, (bl k).b = some b → St' b) (hk : M k = some (.row sz es)) (h : RelC w St M bl (.ref k lo len) v) : RelD w St' (.sl ((es.drop lo).take len)) v := by
  obtain ⟨sz', es', a, hk', hl, rfl, ha⟩ := h
  rw [hk] at hk'; cases hk'
  have hlen : ((es.drop lo).take len).length = len := by simp; omega
  rw [RelD.sl_iff]
  rcases hm.ob k _ hk with ⟨h1, h2, h3⟩ | ⟨b, c, e, _, h1, h2, h3, h4, h5, h6⟩
  · subst h2
    refine ⟨a, (bl k).cap - lo, by rw [hlen], by simp at hl ⊢, by rw [h3]; omega, fun hne => absurd ?_ hne⟩
    simp
  · refine ⟨a, (bl k).cap - lo, by rw [hlen], by rw [hlen]; omega, by omega, fun hne => ?_⟩
    have hlt : lo < (bl k).cap := by
      have : 0 < ((es.drop lo).take len).length := List.length_pos_iff.2 hne
      omega
    obtain ⟨b', hb', rfl⟩ := ha hlt
    refine ⟨b', _, (bl k).sz, rfl, hb b' hb', ⟨fun e he => h6.1 e (List.mem_of_mem_drop (List.mem_of_mem_take he)), fun i e he j x hx => ?_⟩⟩
    have he2 : es[lo + i]? = some e := by
      rw [List.getElem?_take] at he
      split at he
      · rwa [List.getElem?_drop] at he
      · cases he
    obtain ⟨u, hu, hr⟩ := h6.2 (lo + i) e he2 j x hx
    rw [h1] at hb'; cases hb'
    refine ⟨u, ?_, hr.mv fun b hb => ⟨hst b hb, rfl⟩⟩
    have : (bl k).o + lo * (bl k).sz + (i * (bl k).sz + j) = (bl k).o + ((lo + i) * (bl k).sz + j) := by rw [Nat.add_mul]; omega
    rw [this]; exact hu
def keepT (ts : List Nat) (f : Nat → AV) : Nat → AV := fun t => if ts.contains t then f t else .undef
def keepM (ks : List Nat) (M : Mm) : Mm := fun k => if ks.contains k then M k else none
def Ob.keys : Ob → List Nat
  | .box cs => cs.flatMap AV.keys
  | .row _ _ => []
  | .raw _ => []
def keepOk (ts ks : List Nat) (s : S) : Prop :=
  (∀ t ∈ ts, ∀ k ∈ (s.tm t).keys, k ∈ ks) ∧ ∀ k ∈ ks, ∀ o, s.M k = some o → ∀ k' ∈ o.keys, k' ∈ ks
theorem Sim1.keep {cx : Ctx} {s : S} {a : Act} {w : World} {St : Nat → Prop} {bl : Lc} (h : Sim1 cx s a w St bl) (ts ks : List Nat) (hk : keepOk ts ks s) :
    Sim1 cx ⟨keepT ts s.tm, keepM ks s.M⟩ a w St bl := by
  have hfree : ∀ b, Free s.M bl b → Free (keepM ks s.M) bl b := fun b hf k o hm => by
    simp only [keepM] at hm
    split at hm
    · exact hf k o hm
    · cases hm
  have hsome : ∀ {k o}, keepM ks s.M k = some o → k ∈ ks ∧ s.M k = some o := fun {k o} hm => by
    simp only [keepM] at hm
    split at hm
    · rename_i hc; exact ⟨by simpa using hc, hm⟩
    · cases hm
  have mv : Mv w St s.M bl w St (keepM ks s.M) bl (· ∉ ks) :=
    ⟨fun b hb => ⟨hb, rfl⟩, fun b _ hf => ⟨hfree b hf, rfl⟩, Nat.le_refl _, fun k o hx hm => ⟨⟨o, by simp only [keepM]; rw [if_pos (by simpa using hx)]; exact hm, o.like_refl⟩, rfl⟩⟩
  refine ⟨⟨fun b hb => ⟨(h.mem.st b hb).1, hfree b (h.mem.st b hb).2⟩, fun k o hm => ?_, fun k1 k2 o1 o2 b h1 h2 => h.mem.inj _ _ _ _ _ (hsome h1).2 (hsome h2).2⟩,
    ⟨h.frm.sz, h.frm.pres, fun k o b hm => h.frm.own k o b (hsome hm).2, h.frm.st0, h.frm.st, h.frm.os, h.frm.tape, h.frm.output, fun k cs hm => h.frm.rb k cs (hsome hm).2⟩, fun t => ?_, h.n, h.df⟩
  · obtain ⟨hin, hm2⟩ := hsome hm
    have h0 := h.mem.ob k o hm2
    cases o with
    | row sz es => exact h0
    | raw x => exact h0
    | box cs =>
      obtain ⟨b, c, e, h1, h2, h3, h4⟩ := h0
      refine ⟨b, c, e, h1, h2, h3, forall2_imp h4 fun x y hx hr => RelC.mv mv (fun k' hk' hn => hn ?_) hr⟩
      exact hk.2 k hin _ hm2 k' (List.mem_flatMap.2 ⟨x, hx, keys1_sub _ hk'⟩)
  · dsimp only [keepT]
    split
    · rename_i hc
      exact RelV.mv mv (fun k' hk' hn => hn (hk.1 t (by simpa using hc) k' hk')) (h.tm t)
    · trivial
end Go.Pw

namespace Go.Pw
open Go
inductive Ds where
  | sl (e : Nat)
  | st (fs : List (Nat × Nat × Nat))   -- offset, type, cells
  | int (k : IntKind)
  | str
  | bool
  | ptr (e : Nat)
  | arr (n e : Nat)
  | mp (k e : Nat)
  | other
def Ds.agg : Ds → Bool
  | .st _ | .arr .. => true
  | _ => false
def Ds.ok (P : Program) : Ds → TypeDesc → Prop
  | .sl e, d => d = .slice e
  | .st fs, d => ∃ a : Array Field, d = .struct a ∧ a.toList.mapM (fun f => (P.info? f.type).map fun i => (f.offset, i.size)) = some (fs.map fun x => (x.1, x.2.2)) ∧ a.toList.map (·.type) = fs.map (·.2.1)
  | .int k, d => d = .int k
  | .str, d => d = .string
  | .bool, d => d = .bool
  | .ptr e, d => d = .pointer e
  | .arr n e, d => d = .array n e
  | .mp k e, d => d = .map k e
  | .other, d => match d with
    | .struct _ | .array .. => False
    | _ => True
structure TI where
  ds : Ds
  size : Nat
  bytes : Nat
  zero : List Value
  eq : Bool
abbrev Tab := Nat → Option TI
def EqOk (P : Program) (t : Nat) : Prop := P.stoodInHeld t = false ∧ P.eqGuardType P.depth t = false ∧ ∃ fs, P.underlying t = some (.struct fs) ∧ ∀ f ∈ fs.toList, f.name ≠ "_"
structure TyOk1 (P : Program) (t : Nat) (ti : TI) : Prop where
  i : ∃ i z d, P.info? t = some i ∧ P.underlying t = some d ∧ ti.ds.ok P d ∧ i.size = ti.size ∧ i.bytes = ti.bytes ∧ i.zero = some z ∧ z.cells.toList = ti.zero ∧ ti.zero.length = ti.size ∧
    (if ti.ds.agg then z = .agg z.cells else ∃ z0, z = z0 ∧ ti.zero = [z0] ∧ z0.oneCell' = true) ∧ ∀ u ∈ ti.zero, u.oneCell' = true
  eq : ti.eq = true → EqOk P t
def TyOk (P : Program) (T : Tab) : Prop := ∀ t ti, T t = some ti → TyOk1 P t ti
def avOf (v : Value) : AV :=
  match v with
  | .slice none 0 0 => .full []
  | v => if scal v then .d (.lit v) else .undef
def dOf (v : Value) : Option D :=
  match v with
  | .slice none 0 0 => some (.sl [])
  | v => if scal v then some (.lit v) else none
def eval (s : S) : Operand → AV
  | .tmp t => s.tm t
  | .const v => avOf v
  | .func f => .fn f []
  | .global _ => .undef
def AV.cells : AV → Option (List AV)
  | .agg cs => if cs.any AV.isU then none else some cs
  | x => if x.isU then none else some [x]
def ofCells (agg : Bool) (cs : List AV) : AV := if agg then .agg cs else match cs with | [c] => c | _ => .undef
def frz1 (s : S) : AV → Option (D × List Nat)
  | .d x => some (x, [])
  | .full es => some (.sl es, [])
  | .ref k lo len => match s.M k with
    | some (.row _ es) => some (.sl ((es.drop lo).take len), [k])
    | _ => none
  | _ => none
def frz (s : S) : List AV → Option (List D × List Nat)
  | [] => some ([], [])
  | x :: xs => match frz1 s x, frz s xs with
    | some (a, k), some (as, ks) => some (a :: as, k ++ ks)
    | _, _ => none
def splice {α : Type} (cs : List α) (off : Nat) (vs : List α) : List α := cs.take off ++ vs ++ cs.drop (off + vs.length)
structure Out where
  v : AV
  X : List Nat
  M : Mm
  W : List Nat
  R : List Nat
  ob : Prop
def pureO (s : S) (v : AV) (R : List Nat) (ob : Prop) : Out := ⟨v, [], s.M, [], R, ob⟩
def pickAV (t : Bool) (x y : AV) : AV := match x, y with
  | .d (.lit (.bool p)), .d (.lit (.bool q)) => .d (.lit (.bool (bif t then p else q)))
  | x, y => bif t then x else y
def binD (op : BinOp) : Value → Value → Option (Value × Prop)
  | .int k a, .int k' b => if k ≠ k' then none else
    match op with
    | .add => some (.int k (k.wrap (a + b)), True)
    | .sub => some (.int k (k.wrap (a - b)), True)
    | .mul => some (.int k (k.wrap (a * b)), True)
    | .quo => some (.int k (k.wrap (a.tdiv b)), b ≠ 0)
    | .rem => some (.int k (a.tmod b), b ≠ 0)
    | .eql => some (.bool (decide (a = b)), True)
    | .neq => some (.bool (!decide (a = b)), True)
    | .lss => some (.bool (decide (a < b)), True)
    | .leq => some (.bool (decide (a ≤ b)), True)
    | .gtr => some (.bool (decide (b < a)), True)
    | .geq => some (.bool (decide (b ≤ a)), True)
    | _ => none
  | .string a, .string b =>
    match op with
    | .add => some (.string (a ++ b), a.size + b.size ≤ 9223372036854775807)
    | .eql => some (.bool (decide (a = b)), True)
    | .neq => some (.bool (!decide (a = b)), True)
    | _ => none
  | _, _ => none
def binBool (op : BinOp) : Value → Value → Option Value
  | .bool a, .bool b => match op with
    | .eql => some (.bool (a == b))
    | .neq => some (.bool (!(a == b)))
    | _ => none
  | _, _ => none
def elemsOf (s : S) : AV → Option (List (List D))
  | .d (.sl es) | .full es | .bo es => some es
  | .ref k lo len => match s.M k with
    | some (.row _ es) => some ((es.drop lo).take len)
    | _ => none
  | _ => none
def num8 : List D → Int
  | [.lit (.int _ n)] => n
  | _ => 0
def fillA (place : Nat → Option (Nat × Nat)) (cells : List AV) : List (Nat × AV) → Option (List AV)
  | [] => some cells
  | (i, v) :: rest => match place i, v.cells with
    | some (off, size), some vs => if vs.length = size ∧ off + vs.length ≤ cells.length then fillA place (splice cells off vs) rest else none
    | _, _ => none
def intOf? : AV → Option Int
  | .d (.lit (.int _ n)) => some n
  | _ => none
def capOf : AV → Option (Nat × Nat × Nat)
  | .ptr k i off => some (k, i, off)
  | _ => none
def bound (s : S) (dflt : Int) : Option Operand → Option Int
  | none => some dflt
  | some o => intOf? (eval s o)
def chunks {α : Type} (sz : Nat) : Nat → List α → List (List α)
  | 0, _ => []
  | n + 1, ds => ds.take sz :: chunks sz n (ds.drop sz)
def sliceO (s : S) (T : Tab) (t : Nat) (x : AV) (lo hi mx : Option Operand) : Option Out :=
  match x with
  | .d (.lit (.string b)) => match T t, mx, bound s 0 lo, bound s b.size hi with
    | some ti, none, some l, some h => match ti.ds with
      | .str => some (pureO s (.d (.lit (.string (b.extract l.toNat h.toNat)))) [] (0 ≤ l ∧ l ≤ h ∧ h ≤ b.size))
      | _ => none
    | _, _, _, _ => none
  | .d (.sl es) => match T t with
    | some ti => match ti.ds with
      | .sl e => match T e, bound s 0 lo, bound s es.length hi with
        | some te, some l, some h => match mx with
          | none => some (pureO s (.d (.sl ((es.drop l.toNat).take (h.toNat - l.toNat)))) [] (0 ≤ l ∧ l ≤ h ∧ h ≤ es.length ∧ ∀ e ∈ es, e.length = te.size))
          | some m => match intOf? (eval s m), hi with
            | some m, some _ => some (pureO s (.full ((es.drop l.toNat).take (h.toNat - l.toNat))) [] (0 ≤ l ∧ l ≤ h ∧ h ≤ es.length ∧ m = h ∧ ∀ e ∈ es, e.length = te.size))
            | _, _ => none
        | _, _, _ => none
      | _ => none
    | _ => none
  | .bo es => match T t with
    | some ti => match ti.ds with
      | .sl e => match T e, bound s 0 lo, bound s es.length hi with
        | some te, some l, some h => match mx with
          | none => some (pureO s (.bo ((es.drop l.toNat).take (h.toNat - l.toNat))) [] (0 ≤ l ∧ l ≤ h ∧ h ≤ es.length ∧ ∀ e ∈ es, e.length = te.size))
          | some _ => none
        | _, _, _ => none
      | _ => none
    | _ => none
  | .ref k lo0 len => match T t with
    | some ti => match ti.ds with
      | .sl e => match T e, bound s 0 lo, bound s len hi, s.M k with
        | some te, some l, some h, some (.row sz _) => match mx with
          | none => some (pureO s (.ref k (lo0 + l.toNat) (h.toNat - l.toNat)) [k] (0 ≤ l ∧ l ≤ h ∧ h ≤ len ∧ sz = te.size))
          | some _ => none
        | _, _, _, _ => none
      | _ => none
    | _ => none
  | _ => none
def appendO (s : S) (T : Tab) (d t : Nat) (x y : AV) : Option Out :=
  match T t with
  | some ti => match ti.ds with
    | .sl e => match T e, elemsOf s y with
      | some te, some ys => match x with
        | .full es => some ⟨.ref d 0 (es ++ ys).length, [], upd s.M d (some (Ob.row te.size (es ++ ys))), [d], y.keys, s.M d = none ∧ 0 < te.size ∧ (es = [] ∨ ys ≠ []) ∧ (∀ e ∈ es, e.length = te.size) ∧ (∀ e ∈ ys, e.length = te.size) ∧ (es ++ ys).length * te.bytes ≤ 140737488355328 ∧ (es ++ ys).length ≤ 140737488355328⟩
        | .ref k lo len => match s.M k with
          | some (.row sz es) => some ⟨.ref k 0 ((es.drop lo).take len ++ ys).length, [k], upd (scrM [k] s.M) k (some (Ob.row te.size ((es.drop lo).take len ++ ys))), [k], k :: y.keys,
              sz = te.size ∧ 0 < te.size ∧ (∀ e ∈ ys, e.length = te.size) ∧ ((es.drop lo).take len ++ ys).length * te.bytes ≤ 140737488355328 ∧ ((es.drop lo).take len ++ ys).length ≤ 140737488355328 ∧ ¬ (1000 ≤ k ∧ k < 2000)⟩
          | _ => none
        | _ => none
      | _, _ => none
    | _ => none
  | none => none
def lenO (s : S) (ds : Ds) (x : AV) : Option Out :=
  match ds, x with
  | .str, .d (.lit (.string b)) => some (pureO s (.d (.lit (.int .i64 b.size))) [] True)
  | .sl _, .d (.sl es) | .sl _, .full es | .sl _, .bo es => some (pureO s (.d (.lit (.int .i64 es.length))) [] True)
  | .sl _, .ref k _ len => some (pureO s (.d (.lit (.int .i64 len))) [k] True)
  | _, _ => none
def loadO (s : S) (T : Tab) (t : Nat) (a : AV) : Option Out :=
  match T t, a with
  | some ti, .ptr k i off => match s.M k with
    | some (.box cs) => some (pureO s (ofCells ti.ds.agg ((cs.drop off).take ti.size)) (k :: (ofCells ti.ds.agg ((cs.drop off).take ti.size)).keys) (i = 0 ∧ ((cs.drop off).take ti.size).length = ti.size ∧ ((cs.drop off).take ti.size).any AV.isU = false))
    | some (.row _ es) => some (pureO s (ofCells ti.ds.agg ((((es.getD i []).drop off).take ti.size).map .d)) [k] (i < es.length ∧ (((es.getD i []).drop off).take ti.size).length = ti.size))
    | some (.raw _) => none
    | none => none
  | some ti, .dp cs => some (pureO s (ofCells ti.ds.agg ((cs.take ti.size).map .d)) [] ((cs.take ti.size).length = ti.size))
  | _, _ => none
def storeO (s : S) (T : Tab) (t : Nat) (a x : AV) : Option Out :=
  match T t, a, x.cells with
  | some ti, .ptr k i off, some vs => match s.M k with
    | some (.box cs) => some ⟨.undef, [], upd s.M k (some (Ob.box (splice cs off vs))), [k], k :: x.keys, i = 0 ∧ vs.length = ti.size ∧ off + vs.length ≤ cs.length⟩
    | some (.row sz es) => match frz s vs with
      | some (ds, Y) => some ⟨.undef, Y, upd (dropM Y s.M) k (some (Ob.row sz (es.set i (splice (es.getD i []) off ds)))), k :: Y, k :: x.keys, k ∉ Y ∧ (∀ y ∈ Y, ¬ (1000 ≤ y ∧ y < 2000)) ∧ i < es.length ∧ ds.length = ti.size ∧ off + ds.length ≤ (es.getD i []).length⟩
      | none => none
    | some (.raw _) => none
    | none => none
  | _, _, _ => none
def indexAddrO (s : S) (T : Tab) (t : Nat) (x : AV) (i : Option Int) : Option Out :=
  match T t, i with
  | some ti, some i => match ti.ds with
    | .sl e => match T e, x with
      | some te, .d (.sl es) | some te, .full es | some te, .bo es => some (pureO s (.dp (es.getD i.toNat [])) [] (0 ≤ i ∧ i < es.length ∧ (es.getD i.toNat []).length = te.size))
      | some te, .ref k lo len => match s.M k with
        | some (.row sz _) => some (pureO s (.ptr k (lo + i.toNat) 0) [k] (0 ≤ i ∧ i < len ∧ sz = te.size))
        | _ => none
      | _, _ => none
    | .arr m e => match T e, x with
      | some te, .ptr k j off => some (pureO s (.ptr k j (off + i.toNat * te.size)) [k] (0 ≤ i ∧ i < m))
      | _, _ => none
    | _ => none
  | _, _ => none
def fieldAddrO (s : S) (T : Tab) (t : Nat) (x : AV) (f : Nat) : Option Out :=
  match T t with
  | some ti => match ti.ds with
    | .st fs => match fs[f]? with
      | some (o, _, n) => match x with
        | .ptr k i off => some (pureO s (.ptr k i (off + o)) [k] (n ≠ 0))
        | .dp cs => some (pureO s (.dp (cs.drop o)) [] (n ≠ 0))
        | _ => none
      | none => none
    | _ => none
  | none => none
def scalEq : Ds → Value → Value → Option Bool
  | .int _, .int k a, .int k' b => if k = k' then some (decide (a = b)) else none
  | .str, .string a, .string b => some (decide (a = b))
  | .bool, .bool a, .bool b => some (a == b)
  | _, _, _ => none
def cellOf : Option AV → Option Value
  | some (.d (.lit v)) => some v
  | _ => none
def eqCells (T : Tab) : List (Nat × Nat × Nat) → List AV → List AV → Option Bool
  | [], _, _ => some true
  | (o, u, _) :: fs, xs, ys => match T u, cellOf xs[o]?, cellOf ys[o]?, eqCells T fs xs ys with
    | some tu, some a, some b, some r => match scalEq tu.ds a b with
      | some e => some (e && r)
      | none => none
    | _, _, _, _ => none
def eqO (op : BinOp) (b : Bool) : Option Value := match op with
  | .eql => some (.bool b)
  | .neq => some (.bool (!b))
  | _ => none
def keyDesc : Ds → Option TypeDesc
  | .int k => some (.int k)
  | .str => some .string
  | .bool => some .bool
  | _ => none
def mapPut (td : TypeDesc) (kv vv : Value) (es : Array MapEntry) (clock : Nat) : Option (Array MapEntry × Nat) :=
  match Instr.findNow td kv es.toList 0 with
  | some (some (i, _)) => if Instr.sameBits 10000 (((es[i]?).map (·.key)).getD kv) kv then some (es.modify i fun e => { e with key := kv, val := vv }, clock) else none
  | some none => some (es.push { key := kv, val := vv, born := clock }, clock + 1)
  | none => none
def mapGet (td : TypeDesc) (kv : Value) (es : Array MapEntry) (z : Value) : Option (Value × Bool) :=
  match Instr.findNow td kv es.toList 0 with
  | some (some (_, v)) => some (v, true)
  | some none => some (z, false)
  | none => none
def out (T : Tab) (s : S) (op : Op) (d : Nat) : Option Out :=
  match op with
  | .move x | .assign x => some (pureO s (eval s x) (eval s x).keys True)
  | .pick c a b => match eval s c with
    | .d (.lit (.bool t)) => some (pureO s (pickAV t (eval s a) (eval s b)) ((eval s a).keys ++ (eval s b).keys) True)
    | _ => none
  | .alloc t => (T t).map fun ti => ⟨.ptr d 0 0, [], upd s.M d (some (Ob.box (ti.zero.map avOf))), [d], [], s.M d = none⟩
  | .box t x => match T t, (eval s x).cells with
    | some ti, some cs => some ⟨.ptr d 0 0, [], upd s.M d (some (Ob.box cs)), [d], (eval s x).keys, s.M d = none ∧ cs.length = ti.size⟩
    | _, _ => none
  | .build t parts => match T t with
    | some ti => match ti.ds with
      | .st fs => (fillA (fun i => (fs[i]?).map fun x => (x.1, x.2.2)) (ti.zero.map avOf) (parts.toList.map fun p => (p.1, eval s p.2))).map fun cs =>
          pureO s (.agg cs) ((parts.toList.map fun p => (eval s p.2).keys).flatten) (cs.any AV.isU = false)
      | _ => none
    | none => none
  | .buildSlice t len parts => match T t with
    | some ti => match ti.ds with
      | .sl e => match T e with
        | some te => match fillA (fun i => some (i * te.size, te.size)) ((List.replicate len te.zero).flatten.map avOf) (parts.toList.map fun p => (p.1, eval s p.2)) with
          | some cs => match frz s cs with
            | some (ds, Y) => some ⟨.ref d 0 len, Y, upd (dropM Y s.M) d (some (Ob.row te.size (chunks te.size len ds))), d :: Y, (parts.toList.map fun p => (eval s p.2).keys).flatten,
                  s.M d = none ∧ (∀ y ∈ Y, ¬ (1000 ≤ y ∧ y < 2000)) ∧ 0 < te.size ∧ len * te.size ≤ 16777216 ∧ ds.length = len * te.size⟩
            | none => none
          | none => none
        | none => none
      | _ => none
    | none => none
  | .load t a => loadO s T t (eval s a)
  | .store t a x => storeO s T t (eval s a) (eval s x)
  | .nilCheck x => match eval s x with
    | .ptr k i off => some (pureO s (.ptr k i off) [k] True)
    | .dp cs => some (pureO s (.dp cs) [] True)
    | _ => none
  | .binOp op t x y _ => match eval s x, eval s y with
    | .d (.lit a), .d (.lit b) => match binD op a b with
      | some (v, ob) => some (pureO s (.d (.lit v)) [] ob)
      | none => match T t, binBool op a b with
        | some ti, some v => match ti.ds with
          | .bool => some (pureO s (.d (.lit v)) [] True)
          | _ => none
        | _, _ => none
    | .agg xs, .agg ys => match T t with
      | some ti => match ti.ds with
        | .st fs => match eqCells T fs xs ys with
          | some b => match eqO op b with
            | some v => some (pureO s (.d (.lit v)) [] (ti.eq = true))
            | none => none
          | none => none
        | _ => none
      | none => none
    | _, _ => none
  | .unOp op _ x => match op, eval s x with
    | .not, .d (.lit (.bool b)) => some (pureO s (.d (.lit (.bool !b))) [] True)
    | .neg, .d (.lit (.int k n)) => some (pureO s (.d (.lit (.int k (k.wrap (0 - n))))) [] True)
    | _, _ => none
  | .convert src dst x => match T src, T dst, eval s x with
    | some ts, some td, .d (.lit (.int _ n)) => match td.ds with
      | .int k => some (pureO s (.d (.lit (.int k (k.wrap n)))) [] True)
      | _ => none
    | some ts, some td, x => match ts.ds, td.ds, elemsOf s x with
      | .sl e, .str, some es => match T e with
        | some te => match te.ds with
          | .int .u8 => some (pureO s (.d (.lit (.string (strOfNums (es.map num8))))) x.keys (∀ r ∈ es, r = [.lit (.int .u8 (num8 r))]))
          | _ => none
        | none => none
      | _, _, _ => none
    | _, _, _ => none
  | .makeFunc (.func f) first caps => if first.size = 0 then
      match (caps.toList.mapM fun o => capOf (eval s o)) with
      | some cs => some (pureO s (.fn f cs) (cs.map (·.1)) True)
      | none => none
    else none
  | .makeSlice t l c => match T t with
    | some ti => match ti.ds with
      | .sl e => match T e, eval s l, eval s c with
        | some te, .d (.lit (.int _ n)), .d (.lit (.int _ m)) => match te.zero.mapM dOf with
          | some z => some ⟨.ref d 0 n.toNat, [], upd s.M d (some (Ob.row te.size (List.replicate n.toNat z))), [d], [], s.M d = none ∧ 0 < te.size ∧ 0 ≤ n ∧ m = n ∧ n * te.bytes ≤ 140737488355328 ∧ n ≤ 140737488355328⟩
          | none => none
        | _, _, _ => none
      | _ => none
    | none => none
  | .slice t x lo hi mx => sliceO s T t (eval s x) lo hi mx
  | .fieldAddr t x f => fieldAddrO s T t (eval s x) f
  | .field t x f => match T t, eval s x with
    | some ti, .agg cs => match ti.ds with
      | .st fs => match fs[f]? with
        | some (o, u, n) => match T u with
          | some tu => some (pureO s (ofCells tu.ds.agg ((cs.drop o).take n)) ((ofCells tu.ds.agg ((cs.drop o).take n)).keys) (((cs.drop o).take n).length = n ∧ n = tu.size ∧ ((cs.drop o).take n).any AV.isU = false))
          | none => none
        | none => none
      | _ => none
    | _, _ => none
  | .indexAddr t x i => indexAddrO s T t (eval s x) (intOf? (eval s i))
  | .index t x i => match T t, eval s x, intOf? (eval s i) with
    | some ti, .d (.lit (.string b)), some i => match ti.ds with
      | .str => some (pureO s (.d (.lit (.int .u8 (if h : i.toNat < b.size then ((b[i.toNat]'h).toNat : Int) else 0)))) [] (0 ≤ i ∧ i < b.size))
      | _ => none
    | _, _, _ => none
  | .extract t j => match eval s t with
    | .tup vs => match vs[j]? with
      | some v => some (pureO s v v.keys True)
      | none => none
    | _ => none
  | .call c => match c.callee, c.args.toList with
    | .builtin .len, [x] => match c.argTypes.toList with
      | [t] => match T t with
        | some ti => lenO s ti.ds (eval s x)
        | none => none
      | _ => none
    | .builtin .append, [x, y] => match c.argTypes.toList with
      | [t, t'] => if t = t' then appendO s T d t (eval s x) (eval s y) else none
      | _ => none
    | _, _ => none
  | .range t x => match T t, eval s x with
    | some ti, .d (.lit (.string b)) => match ti.ds with
      | .str => some ⟨.ptr d 0 0, [], upd s.M d (some (Ob.raw (.stringIter b 0))), [d], [], s.M d = none⟩
      | _ => none
    | _, _ => none
  | .next x true => match eval s x with
    | .ptr k 0 0 => match s.M k with
      | some (.raw (.stringIter b pos)) => if pos < b.size then some ⟨.tup [.d (.lit (.bool true)), .d (.lit (.int .i64 pos)), .d (.lit (.int .i32 (Utf8.decode b pos).1))], [], upd s.M k (some (Ob.raw (.stringIter b (pos + (Utf8.decode b pos).2)))), [k], [k], True⟩
          else some (pureO s (.tup [.d (.lit (.bool false))]) [k] True)
      | _ => none
    | _ => none
  | .makeMap _ none => some ⟨.mp d, [], upd s.M d (some (Ob.raw (.map #[] 0))), [d], [], s.M d = none⟩
  | .mapUpdate t m k v => match T t, eval s m, eval s k, eval s v with
    | some ti, .mp kk, .d (.lit kv), .d (.lit vv) => match ti.ds with
      | .mp kt _ => match T kt, s.M kk with
        | some tk, some (.raw (.map es clock)) => match keyDesc tk.ds with
          | some td => match mapPut td kv vv es clock with
            | some (es', c') => some ⟨.undef, [], upd s.M kk (some (Ob.raw (.map es' c'))), [kk], [kk], True⟩
            | none => none
          | none => none
        | _, _ => none
      | _ => none
    | _, _, _, _ => none
  | .lookup t m k ok => match T t, eval s m, eval s k with
    | some ti, .mp kk, .d (.lit kv) => match ti.ds with
      | .mp kt et => match T kt, T et, s.M kk with
        | some tk, some te, some (.raw (.map es _)) => match keyDesc tk.ds, te.zero with
          | some td, [z] => match mapGet td kv es z with
            | some (v, b) => some (pureO s (if ok then .tup [.d (.lit v), .d (.lit (.bool b))] else .d (.lit v)) [kk] (te.ds.agg = false ∧ scal v = true))
            | none => none
          | _, _ => none
        | _, _, _ => none
      | _ => none
    | _, _, _ => none
  | _ => none
end Go.Pw

namespace Go.Pw
open Go
structure TyF (P : Program) (t : Nat) (ti : TI) (i : TypeInfo) (z : Value) (ds : TypeDesc) : Prop where
  info : P.info? t = some i
  und : P.underlying t = some ds
  ok : ti.ds.ok P ds
  sz : i.size = ti.size
  by_ : i.bytes = ti.bytes
  zero : i.zero = some z
  zc : z.cells.toList = ti.zero
  zl : ti.zero.length = ti.size
  agg : if ti.ds.agg then z = .agg z.cells else ∃ z0, z = z0 ∧ ti.zero = [z0] ∧ z0.oneCell' = true
  one : ∀ u ∈ ti.zero, u.oneCell' = true
theorem TyOk.get {P : Program} {T : Tab} (h : TyOk P T) {t : Nat} {ti : TI} (ht : T t = some ti) : ∃ i z ds, TyF P t ti i z ds := by
  obtain ⟨i, z, d, h1, h2, h3, h4, h5, h6, h7, h8, h9, h10⟩ := (h t ti ht).i
  exact ⟨i, z, d, h1, h2, h3, h4, h5, h6, h7, h8, h9, h10⟩
section
variable {P : Program} {t : Nat} {ti : TI} {i : TypeInfo} {z : Value} {ds : TypeDesc}
theorem TyF.sizeOf (h : TyF P t ti i z ds) (w : World) : (Go.sizeOf t).run P w = .ok ti.size w := by
  simp [Go.sizeOf, typeInfo, h.info, h.sz]
theorem TyF.zeroV (h : TyF P t ti i z ds) (w : World) : (zeroValue t).run P w = .ok z w := by
  simp [zeroValue, typeInfo, h.info, h.zero]
theorem TyF.sl (h : TyF P t ti i z ds) {e : Nat} (he : ti.ds = .sl e) : P.underlying t = some (.slice e) := by
  have := h.ok; rw [he] at this; rw [h.und]; exact congrArg some this
theorem TyF.isAgg (h : TyF P t ti i z ds) (w : World) : (Go.isAgg t).run P w = .ok ti.ds.agg w := by
  have hu := run_underlying h.und w
  have hk := h.ok
  cases hd : ti.ds <;> rw [hd] at hk <;> simp only [Ds.ok] at hk
  case st fs => obtain ⟨a, rfl, _⟩ := hk; simp [Go.isAgg, hu, Ds.agg]
  case other => cases ds <;> first | exact hk.elim | simp [Go.isAgg, hu, Ds.agg]
  all_goals (subst hk; simp [Go.isAgg, hu, Ds.agg])
theorem TyF.size1 (h : TyF P t ti i z ds) (ha : ti.ds.agg = false) : ti.size = 1 := by
  have := h.agg
  rw [ha] at this
  obtain ⟨z0, _, h2, _⟩ := this
  have := h.zl
  rw [h2] at this
  simpa using this.symm
end
section
variable {w : World} {St : Nat → Prop} {M : Mm} {bl : Lc}
theorem relD_lit {v : Value} (h : scal v = true) : RelD w St (.lit v) v := .lit v h
theorem relC_lit {v : Value} (h : scal v = true) : RelC w St M bl (.d (.lit v)) v := .lit v h
theorem relV_lit {v : Value} (h : scal v = true) : RelV w St M bl (.d (.lit v)) v := .lit v h
theorem relD_nil : RelD w St (.sl []) (.slice none 0 0) := by
  rw [RelD.sl_iff]
  exact ⟨none, 0, rfl, Nat.le_refl _, Nat.zero_le _, fun h => absurd rfl h⟩
theorem avOf_rel (v : Value) : RelC w St M bl (avOf v) v := by
  unfold avOf
  split
  · exact ⟨relD_nil, none, rfl⟩
  · split
    · exact relC_lit ‹_›
    · trivial
theorem dOf_rel {v : Value} {x : D} (h : dOf v = some x) : RelD w St x v := by
  unfold dOf at h
  split at h
  · cases h; exact relD_nil
  · split at h
    · cases h; exact relD_lit ‹_›
    · cases h
theorem lit_eq {x v : Value} (h : RelV w St M bl (.d (.lit x)) v) : v = x ∧ scal x = true := by
  have h' : RelD w St (.lit x) v := h
  cases h' with
  | lit _ hs => exact ⟨rfl, hs⟩
end
section
variable {P : Program} {cx : Ctx} {s : S} {a : Act} {w : World} {St : Nat → Prop} {bl : Lc}
theorem eval_rel (h : Sim1 cx s a w St bl) (x : Operand) : RelV w St s.M bl (eval s x) (a.eval x) := by
  cases x with
  | tmp t => exact h.tm t
  | const v => exact RelV.of_c (avOf_rel v)
  | global g => trivial
  | func f => exact RelV.of_c (x := .fn f []) ⟨[], rfl, .nil⟩
theorem eval_lit (h : Sim1 cx s a w St bl) {x : Operand} {v : Value} (he : eval s x = .d (.lit v)) : a.eval x = v ∧ scal v = true := by
  have := eval_rel h x
  rw [he] at this
  exact lit_eq this
def OpOk (P : Program) (cx : Ctx) (s : S) (a : Act) (w : World) (St : Nat → Prop) (bl : Lc) (o : Oper) (u : Out) : Prop :=
  ∃ nx v w' St' bl', (execOp a.eval o).run P w = .ok nx w' ∧ (nx = .value v ∨ nx = .skip ∧ v = undef) ∧ Mv w St s.M bl w' St' u.M bl' (· ∈ u.X) ∧ Mem w' St' u.M bl' ∧ Frm cx w' St' u.M bl' ∧ RelV w' St' u.M bl' u.v v
theorem OpOk.pure (h : Sim1 cx s a w St bl) {o : Oper} {v : AV} {u : Value} {R : List Nat} {ob : Prop} (hr : (execOp a.eval o).run P w = .ok (.value u) w) (hv : RelV w St s.M bl v u) :
    OpOk P cx s a w St bl o (pureO s v R ob) :=
  ⟨_, u, w, St, bl, hr, .inl rfl, Mv.refl .., h.mem, h.frm, hv⟩
theorem OpOk.obj (h : Sim1 cx s a w St bl) {o : Oper} {k : Nat} {ob' : Ob} {l : Loc} {X W R : List Nat} {w' : World} {v : AV} {u : Value} {nx : Next} {ob : Prop}
    (hr : (execOp a.eval o).run P w = .ok nx w') (hnx : nx = .value u ∨ nx = .skip ∧ u = undef)
    (hos : w'.os = w.os) (htape : w'.tape = w.tape) (hout : w'.output = w.output) (hsz : w.heap.size ≤ w'.heap.size)
    (hblk : ∀ b, b < w.heap.size → (∀ o, s.M k = some o → (bl k).b ≠ some b) → w'.heap[b]? = w.heap[b]?)
    (hl : ∀ b, l.b = some b → (w.heap.size ≤ b ∧ b < w'.heap.size) ∨ ∃ o, s.M k = some o ∧ (bl k).b = some b)
    (hX : k ∈ X ∨ (bl k = l ∧ ∀ o, s.M k = some o → o.like ob') ∨ s.M k = none)
    (hrb : 1000 ≤ k → k < 2000 → l = bl k ∧ ∃ o, s.M k = some o)
    (hob : ∀ (M' : Mm) (bl' : Lc), M' = upd (scrM X s.M) k ob' → bl' = upd bl k l → Mv w St s.M bl w' St M' bl' (· ∈ X) → ObRel w' St M' bl' k ob')
    (hv : ∀ (M' : Mm) (bl' : Lc), M' k = some ob' → bl' k = l → RelV w' St M' bl' v u) :
    OpOk P cx s a w St bl o ⟨v, X, upd (scrM X s.M) k (some ob'), W, R, ob⟩ := by
  obtain ⟨h1, h2, h3⟩ := h.obj (X := X) hos htape hout hsz hblk hl hX hrb hob
  exact ⟨nx, u, w', St, upd bl k l, hr, hnx, h1, h2, h3, hv _ _ (upd_same ..) (upd_same ..)⟩
theorem cells_rel {x : AV} {v : Value} {cs : List AV} (hx : RelV w St s.M bl x v) (hc : x.cells = some cs) : All2 (RelC w St s.M bl) cs v.cells.toList ∧ ∀ u ∈ v.cells.toList, u.oneCell' = true := by
  have one : ∀ (c : AV) (u : Value), c.isU = false → RelC w St s.M bl c u → u.oneCell' = true := fun c u hu hr =>
    RelC.one hu hr
  unfold AV.cells at hc
  split at hc
  · rename_i cs'
    split at hc
    · cases hc
    · rename_i hn
      cases hc
      obtain ⟨vs, rfl, h1, h2⟩ := (show RelT w St s.M bl (.agg cs) v from hx)
      exact ⟨by simpa [Value.cells] using h1, by simpa [Value.cells] using h2⟩
  · split at hc
    · cases hc
    · rename_i hn hu
      cases hc
      have hu' : x.isU = false := by simpa using hu
      have hr : RelC w St s.M bl x v := by
        cases x <;> first | exact hx | simp [AV.isU] at hu'
      have h1 := one x v hu' hr
      have : v.cells = #[v] := by cases v <;> first | rfl | simp [Value.oneCell'] at h1
      rw [this]
      exact ⟨.cons hr .nil, by simpa using h1⟩
theorem ofCells_rel {M : Mm} {agg : Bool} {cs : List AV} {vs : List Value} (h : All2 (RelC w St M bl) cs vs) (h1 : agg = false → cs.length = 1) (hu : cs.any AV.isU = false) :
    RelV w St M bl (ofCells agg cs) (if agg then .agg vs.toArray else vs.headD undef) := by
  have hone : ∀ u ∈ vs, u.oneCell' = true := by
    clear h1
    induction h with
    | nil => simp
    | cons hr _ ih =>
      simp only [List.any_cons, Bool.or_eq_false_iff] at hu
      intro u hm
      rcases List.mem_cons.1 hm with rfl | hm
      · exact RelC.one hu.1 hr
      · exact ih hu.2 u hm
  cases agg with
  | true => exact ⟨vs, rfl, h, hone⟩
  | false =>
    have := h1 rfl
    cases h with
    | nil => simp at this
    | cons hr ht =>
      cases ht with
      | nil => exact RelV.of_c hr
      | cons _ _ => simp at this
theorem all2_take {α β : Type} {R : α → β → Prop} {xs : List α} {ys : List β} (h : All2 R xs ys) : ∀ n, All2 R (xs.take n) (ys.take n) := by
  induction h with
  | nil => intro n; simp; exact .nil
  | cons hr _ ih => intro n; cases n with
    | zero => exact .nil
    | succ n => exact .cons hr (ih n)
theorem all2_drop {α β : Type} {R : α → β → Prop} {xs : List α} {ys : List β} (h : All2 R xs ys) : ∀ n, All2 R (xs.drop n) (ys.drop n) := by
  induction h with
  | nil => intro n; simp; exact .nil
  | cons hr ht ih => intro n; cases n with
    | zero => exact .cons hr ht
    | succ n => exact ih n
theorem all2_append {α β : Type} {R : α → β → Prop} {xs xs' : List α} {ys ys' : List β} (h : All2 R xs ys) (h' : All2 R xs' ys') : All2 R (xs ++ xs') (ys ++ ys') := by
  induction h with
  | nil => exact h'
  | cons hr _ ih => exact .cons hr ih
theorem all2_splice {α β : Type} {R : α → β → Prop} {xs xs' : List α} {ys ys' : List β} (h : All2 R xs ys) (h' : All2 R xs' ys') (off : Nat) : All2 R (splice xs off xs') (splice ys off ys') := by
  unfold splice
  rw [h'.length]
  exact all2_append (all2_append (all2_take h off) h') (all2_drop h _)
theorem all2_imp {α β : Type} {R S : α → β → Prop} {xs : List α} {ys : List β} (h : All2 R xs ys) (hi : ∀ x y, R x y → S x y) : All2 S xs ys := forall2_imp h fun x y _ => hi x y
theorem all2_map {α β γ : Type} {R : α → β → Prop} {f : γ → α} {xs : List γ} {ys : List β} (h : All2 (fun x y => R (f x) y) xs ys) : All2 R (xs.map f) ys := by
  induction h with
  | nil => exact .nil
  | cons hr _ ih => exact .cons hr ih
theorem loadCells_list (b o : Nat) (vs : List Value) (hc : ∀ j v, vs[j]? = some v → w.cell? ⟨b, o + j, none⟩ = some v) : (loadCells ⟨b, o, none⟩ vs.length).run P w = .ok vs.toArray w :=
  run_loadCells_list (P := P) w ⟨b, o, none⟩ vs fun j v hv => by
    have hadd : (⟨b, o, none⟩ : Addr).add j = ⟨b, o + j, none⟩ := by unfold Addr.add; split <;> simp_all
    rw [hadd]; exact hc j v hv
theorem load_run {T : Tab} (hT : TyOk P T) {t : Nat} {ti : TI} (ht : T t = some ti) (b o : Nat) (vs : List Value) (hl : vs.length = ti.size) (hc : ∀ j v, vs[j]? = some v → w.cell? ⟨b, o + j, none⟩ = some v) :
    (Instr.loadAt t (.pointer (some ⟨b, o, none⟩))).run P w = .ok (if ti.ds.agg then .agg vs.toArray else vs.headD undef) w := by
  obtain ⟨i, z, ds, hty⟩ := hT.get ht
  cases hagg : ti.ds.agg with
  | true =>
    have := loadCells_list (P := P) b o vs hc
    rw [hl] at this
    simp [Instr.loadAt, Instr.sureAddr, loadVar, hty.isAgg, hty.sizeOf, hagg, this]
  | false =>
    have h1 := hty.size1 hagg
    cases vs with
    | nil => simp [h1] at hl
    | cons v vs =>
      have := hc 0 v rfl
      simp only [Nat.add_zero] at this
      simp [Instr.loadAt, Instr.sureAddr, loadVar, hty.isAgg, hagg, this]
theorem row_get {es : List (List D)} {b o sz : Nat} (h : RelRow w St es b o sz) {i : Nat} {e : List D} (he : es[i]? = some e) : ∃ vs : List Value, All2 (RelD w St) e vs ∧ ∀ j v, vs[j]? = some v → w.cell? ⟨b, o + (i * sz + j), none⟩ = some v := by
  have hlen := h.1 e (List.mem_of_getElem? he)
  refine ⟨(List.range e.length).map fun j => (w.cell? ⟨b, o + (i * sz + j), none⟩).getD undef, All2.of_get (by simp) fun j x y hx hy => ?_, fun j v hv => ?_⟩
  · obtain ⟨u, hu, hr⟩ := h.2 i e he j x hx
    have hj : j < e.length := (List.getElem?_eq_some_iff.1 hx).1
    simp [hj, hu] at hy
    subst hy; exact hr
  · have hj : j < e.length := by
      have := (List.getElem?_eq_some_iff.1 hv).1
      simpa using this
    obtain ⟨u, hu, hr⟩ := h.2 i e he j e[j] (by simp [hj])
    simp [hj, hu] at hv
    subst hv; exact hu
theorem getD_some {α : Type} {es : List α} {i : Nat} {d : α} (h : i < es.length) : es[i]? = some (es.getD i d) := by
  rw [List.getD_eq_getElem?_getD, List.getElem?_eq_getElem h]; rfl
theorem load_ok {T : Tab} (hT : TyOk P T) (h : Sim1 cx s a w St bl) {o : Oper} {t : Nat} {x : Operand} (ho : o.op = .load t x) {u : Out} (hu : loadO s T t (eval s x) = some u) (hob : u.ob) : OpOk P cx s a w St bl o u := by
  have hx := eval_rel h x
  have hex : execOp a.eval o = (do pure (.value (← Instr.loadAt t (a.eval x)))) := by simp only [execOp, ho]
  unfold loadO at hu
  split at hu
  case h_3 => cases hu
  case h_1 ti k i off ht he =>
    rw [he] at hx
    obtain ⟨b, o', hm, hb, hv⟩ := (show RelP s.M bl k i off (a.eval x) from hx)
    rw [hm] at hu
    cases o' with
    | raw x => cases hu
    | box cs =>
      simp only [Option.some.injEq] at hu; subst hu
      obtain ⟨rfl, hlen, hnu⟩ := hob
      obtain ⟨b', c, e, h1, h2, h3, h4⟩ := h.mem.ob k _ hm
      rw [hb] at h1; cases h1
      have hsub := all2_take (all2_drop h4 off) ti.size
      have hlen2 : ((c.toList.drop off).take ti.size).length = ti.size := by rw [← hsub.length]; exact hlen
      have hr := load_run (w := w) hT ht b off ((c.toList.drop off).take ti.size) hlen2 (fun j v hj => by
        rw [cell_of_row w b (off + j) c e (0, 0) h3]
        rw [List.getElem?_take] at hj
        split at hj
        · rw [List.getElem?_drop] at hj; simpa using hj
        · cases hj)
      refine OpOk.pure h (u := if ti.ds.agg then .agg ((c.toList.drop off).take ti.size).toArray else ((c.toList.drop off).take ti.size).headD undef) ?_ (ofCells_rel hsub (fun ha => ?_) hnu)
      · rw [hex, hv, h2]; simp only [Nat.zero_mul, Nat.zero_add, Sem.run_bind, hr]; rfl
      · obtain ⟨i, z, ds, hty⟩ := hT.get ht
        rw [hlen]; exact hty.size1 ha
    | row sz es =>
      simp only [Option.some.injEq] at hu; subst hu
      obtain ⟨hi, hlen⟩ := hob
      rcases h.mem.ob k _ hm with ⟨h1, h2, h3⟩ | ⟨b', c, e, h0, h1, h2, h3, h4, h5, h6⟩
      · subst h2; simp at hi
      rw [hb] at h1; cases h1
      obtain ⟨vs, hvs, hcell⟩ := row_get h6 (getD_some (d := []) hi)
      have hsub := all2_take (all2_drop hvs off) ti.size
      have hlen2 : ((vs.drop off).take ti.size).length = ti.size := by rw [← hsub.length]; exact hlen
      have hr := load_run (w := w) hT ht b ((bl k).o + (i * (bl k).sz + off)) ((vs.drop off).take ti.size) hlen2 (fun j v hj => by
        rw [List.getElem?_take] at hj
        split at hj
        · rw [List.getElem?_drop] at hj
          have := hcell (off + j) v hj
          rwa [show (bl k).o + (i * (bl k).sz + off) + j = (bl k).o + (i * (bl k).sz + (off + j)) by omega]
        · cases hj)
      refine OpOk.pure h (u := if ti.ds.agg then .agg ((vs.drop off).take ti.size).toArray else ((vs.drop off).take ti.size).headD undef) ?_
        (ofCells_rel (all2_map (R := RelC w St s.M bl) (f := AV.d) (all2_imp hsub fun _ _ hr => hr)) (fun ha => ?_) ?_)
      · rw [hex, hv]; simp only [Sem.run_bind, hr]; rfl
      · obtain ⟨i, z, ds, hty⟩ := hT.get ht
        rw [List.length_map, hlen]; exact hty.size1 ha
      · rw [List.any_eq_false]; intro y hy; obtain ⟨z, _, rfl⟩ := List.mem_map.1 hy; simp [AV.isU]
  case h_2 ti cs ht he =>
    rw [he] at hx
    obtain ⟨b, o', hv, hf, hlt, hc⟩ := (show RelC w St s.M bl (.dp cs) (a.eval x) from hx)
    simp only [Option.some.injEq] at hu; subst hu
    have hlen : (cs.take ti.size).length = ti.size := hob
    have hrow : RelRow w St [cs] b o' cs.length := ⟨by simp, fun i e he j x hx => by
      cases i with
      | zero => simp at he; subst he; simpa using hc j x hx
      | succ i => simp at he⟩
    obtain ⟨vs, hvs, hcell⟩ := row_get hrow (i := 0) rfl
    have hsub := all2_take hvs ti.size
    have hlen2 : (vs.take ti.size).length = ti.size := by rw [← hsub.length]; exact hlen
    have hr := load_run (w := w) hT ht b o' (vs.take ti.size) hlen2 (fun j v hj => by
      rw [List.getElem?_take] at hj
      split at hj
      · simpa using hcell j v hj
      · cases hj)
    refine OpOk.pure h (u := if ti.ds.agg then .agg (vs.take ti.size).toArray else (vs.take ti.size).headD undef) ?_
      (ofCells_rel (all2_map (R := RelC w St s.M bl) (f := AV.d) (all2_imp hsub fun _ _ hr => hr)) (fun ha => ?_) ?_)
    · rw [hex, hv]; simp only [Sem.run_bind, hr]; rfl
    · obtain ⟨i, z, ds, hty⟩ := hT.get ht
      rw [List.length_map, hlen]; exact hty.size1 ha
    · rw [List.any_eq_false]; intro y hy; obtain ⟨z, _, rfl⟩ := List.mem_map.1 hy; simp [AV.isU]
end
end Go.Pw

namespace Go.Pw
open Go
section
variable {P : Program} {cx : Ctx} {s : S} {a : Act} {w : World} {St : Nat → Prop} {bl : Lc}
theorem scrM_nil_upd (M : Mm) (k : Nat) (o : Option Ob) : upd (scrM [] M) k o = upd M k o := by rw [scrM_nil]
theorem fresh_alloc {o : Obj} : ∀ b, b < w.heap.size → (w.alloc o).heap[b]? = w.heap[b]? := fun b hb => RowKit.Below.heap_alloc _ _ _ hb
theorem new_ok (h : Sim1 cx s a w St bl) {o : Oper} {k : Nat} {ob' : Ob} {l : Loc} {W R : List Nat} {v : AV} {u : Value} {ob : Prop} {c : Array Value} {e : TypeId}
    (hr : (execOp a.eval o).run P w = .ok (.value u) (w.alloc (.cells c e))) (hk : s.M k = none) (hl : l.b = some w.heap.size) (hnr : ¬ (1000 ≤ k ∧ k < 2000))
    (hob : ∀ (w' : World) (M' : Mm) (bl' : Lc), w' = w.alloc (.cells c e) → M' = upd s.M k ob' → bl' = upd bl k l → Mv w St s.M bl w' St M' bl' (· ∈ ([] : List Nat)) → ObRel w' St M' bl' k ob')
    (hv : ∀ (w' : World) (M' : Mm) (bl' : Lc), M' k = some ob' → bl' k = l → RelV w' St M' bl' v u) :
    OpOk P cx s a w St bl o ⟨v, [], upd s.M k (some ob'), W, R, ob⟩ := by
  have := OpOk.obj (P := P) (X := []) (W := W) (R := R) (ob := ob) h hr (.inl rfl) rfl rfl rfl (by simp) (fun b hb _ => fresh_alloc b hb) (l := l) (k := k) (ob' := ob') (v := v)
    (fun b hb => by rw [hl] at hb; cases hb; exact .inl ⟨Nat.le_refl _, by simp⟩) (.inr (.inr hk)) (fun h1 h2 => absurd ⟨h1, h2⟩ hnr)
    (fun M' bl' hM hbl mv => hob _ M' bl' rfl (by rw [hM, scrM_nil]) hbl mv) (fun M' bl' => hv _ M' bl')
  rwa [scrM_nil_upd] at this
theorem box_obj (h : Sim1 cx s a w St bl) {k : Nat} {cs : List AV} {c : Array Value} {e : TypeId} (hc : All2 (RelC w St s.M bl) cs c.toList) (w' : World) (M' : Mm) (bl' : Lc)
    (hw : w' = w.alloc (.cells c e)) (hM : M' = upd s.M k (some (.box cs))) (hbl : bl' = upd bl k ⟨some w.heap.size, 0, 0, 0⟩) (mv : Mv w St s.M bl w' St M' bl' (· ∈ ([] : List Nat))) : ObRel w' St M' bl' k (.box cs) := by
  refine ⟨w.heap.size, c, e, by rw [hbl, upd_same], by rw [hbl, upd_same], by rw [hw]; exact heap_alloc_new w _, all2_imp hc fun x y hr => RelC.mv mv (by simp) hr⟩
theorem ptr_new {w' : World} {M' : Mm} {bl' : Lc} {k b sz cap : Nat} {ob : Ob} (hM : M' k = some ob) (hbl : bl' k = ⟨some b, 0, sz, cap⟩) : RelV w' St M' bl' (.ptr k 0 0) (.pointer (some ⟨b, 0, none⟩)) := by
  refine RelV.of_c (x := .ptr k 0 0) ⟨b, ob, hM, by rw [hbl], by rw [hbl]; simp⟩
theorem alloc_ok {T : Tab} (hT : TyOk P T) (h : Sim1 cx s a w St bl) {o : Oper} {t d : Nat} (ho : o.op = .alloc t) (hd : d < 1000) {u : Out} (hu : out T s (.alloc t) d = some u) (hob : u.ob) : OpOk P cx s a w St bl o u := by
  simp only [out] at hu
  cases ht : T t with
  | none => rw [ht] at hu; cases hu
  | some ti =>
    rw [ht] at hu; simp only [Option.map_some, Option.some.injEq] at hu; subst hu
    obtain ⟨i, z, ds, hty⟩ := hT.get ht
    refine new_ok h (c := z.cells) (e := t) (l := ⟨some w.heap.size, 0, 0, 0⟩) (u := .pointer (some ⟨w.heap.size, 0, none⟩)) ?_ hob rfl (fun h => by omega) ?_ ?_
    · simp only [execOp, ho, Instr.alloc, Sem.run_bind, hty.zeroV]
      simp [newVar, newRow]
    · exact box_obj h (by rw [hty.zc]; exact all2_map (All2.of_get rfl fun j x y hx hy => by rw [hx] at hy; cases hy; exact avOf_rel x))
    · intro w' M' bl' hM hbl; exact ptr_new hM hbl
theorem box_ok {T : Tab} (h : Sim1 cx s a w St bl) {o : Oper} {t d : Nat} {x : Operand} (ho : o.op = .box t x) (hd : d < 1000) {u : Out} (hu : out T s (.box t x) d = some u) (hob : u.ob) : OpOk P cx s a w St bl o u := by
  simp only [out] at hu
  split at hu
  · rename_i ti cs ht hc
    simp only [Option.some.injEq] at hu; subst hu
    obtain ⟨hrel, _⟩ := cells_rel (eval_rel h x) hc
    refine new_ok h (c := (a.eval x).cells) (e := t) (l := ⟨some w.heap.size, 0, 0, 0⟩) (u := .pointer (some ⟨w.heap.size, 0, none⟩)) ?_ hob.1 rfl (fun h => by omega) ?_ ?_
    · simp only [execOp, ho, Instr.box]
      simp [newVar, newRow]
    · exact box_obj h hrel
    · intro w' M' bl' hM hbl; exact ptr_new hM hbl
  · cases hu
theorem move_ok {T : Tab} (h : Sim1 cx s a w St bl) {o : Oper} {d : Nat} {x : Operand} (ho : o.op = .move x ∨ o.op = .assign x) {u : Out} (hu : out T s o.op d = some u) : OpOk P cx s a w St bl o u := by
  have hu' : u = pureO s (eval s x) (eval s x).keys True := by
    rcases ho with ho | ho <;> rw [ho] at hu <;> simp only [out, Option.some.injEq] at hu <;> exact hu.symm
  subst hu'
  refine OpOk.pure h (u := a.eval x) ?_ (eval_rel h x)
  rcases ho with ho | ho <;> simp only [execOp, ho, Sem.run_pure]
theorem pick_ok {T : Tab} (h : Sim1 cx s a w St bl) {o : Oper} {d : Nat} {c x y : Operand} (ho : o.op = .pick c x y) {u : Out} (hu : out T s (.pick c x y) d = some u) : OpOk P cx s a w St bl o u := by
  simp only [out] at hu
  split at hu
  · rename_i t hc
    simp only [Option.some.injEq] at hu; subst hu
    obtain ⟨hce, _⟩ := eval_lit h hc
    have hx := eval_rel h x
    have hy := eval_rel h y
    refine OpOk.pure h (u := if t then a.eval x else a.eval y) ?_ ?_
    · simp only [execOp, ho, hce, asBool, Sem.run_bind, Sem.run_pure, Result.andThen_ok]
    · unfold pickAV
      split
      · rename_i p q hp hq
        rw [hp] at hx; rw [hq] at hy
        rw [(lit_eq hx).1, (lit_eq hy).1]
        cases t <;> exact relV_lit rfl
      · cases t <;> assumption
  · cases hu
theorem nilCheck_ok {T : Tab} (h : Sim1 cx s a w St bl) {o : Oper} {d : Nat} {x : Operand} (ho : o.op = .nilCheck x) {u : Out} (hu : out T s (.nilCheck x) d = some u) : OpOk P cx s a w St bl o u := by
  simp only [out] at hu
  have hx := eval_rel h x
  split at hu
  · rename_i k i off he
    simp only [Option.some.injEq] at hu; subst hu
    rw [he] at hx
    obtain ⟨b, ob, h1, h2, h3⟩ := (show RelP s.M bl k i off (a.eval x) from hx)
    refine OpOk.pure h (u := a.eval x) ?_ hx
    simp only [execOp, ho, h3, Sem.run_pure]
  · rename_i cs he
    simp only [Option.some.injEq] at hu; subst hu
    rw [he] at hx
    obtain ⟨b, o', hv, h2, h3⟩ := (show RelC w St s.M bl (.dp cs) (a.eval x) from hx)
    refine OpOk.pure h (u := a.eval x) ?_ hx
    simp only [execOp, ho, hv, Sem.run_pure]
  · cases hu
theorem toList_inj {x y : ByteArray} : (x.toList == y.toList) = decide (x = y) := by
  by_cases h : x = y
  · subst h; simp
  · simp only [h, decide_false]
    rw [beq_eq_false_iff_ne]
    intro e
    apply h
    rw [ByteArray.toList_eq, ByteArray.toList_eq] at e
    cases x; cases y
    simp only [ByteArray.mk.injEq]
    simpa using Array.toList_inj.1 e
theorem binD_run {op : BinOp} {x y v : Value} {ob : Prop} (hb : binD op x y = some (v, ob)) (hob : ob) (xo yo : Operand) (t : Nat) : (do eqGuard op t xo yo x y; binOp op t x y : Sem Value).run P w = .ok v w ∧ scal v = true := by
  unfold binD at hb
  split at hb
  · rename_i k p k' q
    split at hb
    · cases hb
    · rename_i hkk
      have hkk : k = k' := by simpa using hkk
      subst hkk
      have hg : (eqGuard op t xo yo (.int k p) (.int k q)).run P w = .ok () w := by
        cases op <;> rfl
      cases op <;> simp only [Option.some.injEq, Prod.mk.injEq, reduceCtorEq] at hb <;> obtain ⟨rfl, rfl⟩ := hb <;> simp only [Sem.run_bind, hg, Result.andThen_ok] <;> refine ⟨?_, rfl⟩
      all_goals first
        | (simp [binOp, Op.intArith, Op.intCmp]; done)
        | (have h0 : ¬ q = 0 := hob; simp [binOp, Op.intDiv, h0]; done)
        | (simp only [binOp, Op.intCmp, ne_eq, not_true, if_false, Sem.run_pure, Result.ok.injEq, Value.bool.injEq, and_true]; rfl)
        | skip
      all_goals (simp [binOp, Op.intCmp]; try (by_cases e : p = q <;> simp [e]))
  · rename_i p q
    have hg : (eqGuard op t xo yo (.string p) (.string q)).run P w = .ok () w := by
      cases op <;> rfl
    cases op <;> simp only [Option.some.injEq, Prod.mk.injEq, reduceCtorEq] at hb <;> obtain ⟨rfl, rfl⟩ := hb <;> simp only [Sem.run_bind, hg, Result.andThen_ok] <;> refine ⟨?_, rfl⟩
    · simp only [binOp]; exact run_string_add_sum (P := P) w p q hob
    · simp [binOp, Op.stringOp, toList_inj]
    · simp [binOp, Op.stringOp, toList_inj]
  · cases hb
end
end Go.Pw

namespace Go.Pw
open Go
section
variable {P : Program} {cx : Ctx} {s : S} {a : Act} {w : World} {St : Nat → Prop} {bl : Lc}
theorem run_bool_eq {t : Nat} (ht : P.underlying t = some .bool) (p q : Bool) (xo yo : Operand) : (do eqGuard .eql t xo yo (.bool p) (.bool q); binOp .eql t (.bool p) (.bool q) : Sem Value).run P w = .ok (.bool (p == q)) w := by
  have hg : (eqGuard .eql t xo yo (.bool p) (.bool q)).run P w = .ok () w := rfl
  simp only [Sem.run_bind, hg, Result.andThen_ok]
  exact run_eql_bool w t p q ht
theorem run_bool_ne {t : Nat} (ht : P.underlying t = some .bool) (p q : Bool) (xo yo : Operand) : (do eqGuard .neq t xo yo (.bool p) (.bool q); binOp .neq t (.bool p) (.bool q) : Sem Value).run P w = .ok (.bool (!(p == q))) w := by
  have hg : (eqGuard .neq t xo yo (.bool p) (.bool q)).run P w = .ok () w := rfl
  simp only [Sem.run_bind, hg, Result.andThen_ok]
  exact run_neq_bool w t p q ht
theorem cellOf_some {o : Option AV} {v : Value} (h : cellOf o = some v) : o = some (.d (.lit v)) := by
  unfold cellOf at h
  split at h
  · cases h; rfl
  · cases h
theorem scalEq_run {ds : Ds} {td : TypeDesc} {t : Nat} (hd : ds.ok P td) (ht : P.underlying t = some td) {a b : Value} {e : Bool} (h : scalEq ds a b = some e) (n : Nat) : (Op.equalIn (n + 1) t a b).run P w = .ok e w ∧ ds.agg = false := by
  unfold scalEq at h
  split at h
  · rename_i k1 k a k' b
    split at h
    · rename_i hk
      subst hk
      have hd' : td = .int k1 := hd
      subst hd'
      cases h
      refine ⟨?_, rfl⟩
      rw [run_equalIn_int w n t k k1 a b ht]
      congr 1
    · cases h
  · have hd' : td = .string := hd
    subst hd'
    cases h
    refine ⟨?_, rfl⟩
    rw [run_equalIn_string w n t _ _ ht, toList_inj]
  · have hd' : td = .bool := hd
    subst hd'
    cases h
    exact ⟨run_equalIn_bool' w n t _ _ ht, rfl⟩
  · cases h
theorem part_run {T : Tab} (hT : TyOk P T) {u : Nat} {tu : TI} (hu : T u = some tu) (hag : tu.ds.agg = false) (xs : Array Value) (o : Nat) {v : Value} (hv : xs[o]? = some v) : (part u xs o).run P w = .ok v w := by
  obtain ⟨i, z, ds, hty⟩ := hT.get hu
  have h := hty.isAgg w
  rw [hag] at h
  simp [part, Sem.run_bind, h, hv]
theorem eqFields_run {T : Tab} (hT : TyOk P T) {M : Mm} (n : Nat) {xs ys : List AV} {vx vy : List Value} (hx : All2 (RelC w St M bl) xs vx) (hy : All2 (RelC w St M bl) ys vy) : ∀ (fs : List (Nat × Nat × Nat)) (fields : List Field) {b : Bool},
    fields.mapM (fun f => (P.info? f.type).map fun i => (f.offset, i.size)) = some (fs.map fun x => (x.1, x.2.2)) → fields.map (·.type) = fs.map (·.2.1) → (∀ f ∈ fields, f.name ≠ "_") → eqCells T fs xs ys = some b → (Op.eqFields (n + 1) vx.toArray vy.toArray fields).run P w = .ok b w
  | [], [], b, _, _, _, h => by simp only [eqCells, Option.some.injEq] at h; subst h; simp [Op.eqFields]
  | [], _ :: _, _, _, h, _, _ => by simp at h
  | _ :: _, [], _, _, h, _, _ => by simp at h
  | (o, u, k) :: fs, f :: fields, b, hm, ht, hn, h => by
    simp only [List.map_cons, List.cons.injEq] at ht
    obtain ⟨ht1, ht2⟩ := ht
    simp only [List.mapM_cons, Option.bind_eq_bind, Option.bind_eq_some_iff, Option.pure_def, Option.some.injEq, List.map_cons, List.cons.injEq] at hm
    obtain ⟨p, hp, ps, hps, h1, h2⟩ := hm
    rw [Option.map_eq_some_iff] at hp
    obtain ⟨inf, _, hp⟩ := hp
    have ho : f.offset = o := by rw [← hp] at h1; exact congrArg Prod.fst h1
    simp only [eqCells] at h
    split at h
    · rename_i tu a c r hu ha hc hr
      split at h
      · rename_i e he
        simp only [Option.some.injEq] at h; subst h
        obtain ⟨i, z, ds, hty⟩ := hT.get hu
        obtain ⟨v1, hv1, hr1⟩ := hx.get o _ (cellOf_some ha)
        obtain ⟨v2, hv2, hr2⟩ := hy.get o _ (cellOf_some hc)
        obtain ⟨rfl, _⟩ := lit_eq (RelV.of_c hr1)
        obtain ⟨rfl, _⟩ := lit_eq (RelV.of_c hr2)
        obtain ⟨he1, hag⟩ := scalEq_run (P := P) (w := w) hty.ok hty.und he n
        have ih := eqFields_run hT n hx hy fs fields (by rw [hps, h2]) ht2 (fun f hf => hn f (List.mem_cons_of_mem _ hf)) hr
        have p1 := part_run (P := P) (w := w) hT hu hag vx.toArray o (by simpa using hv1)
        have p2 := part_run (P := P) (w := w) hT hu hag vy.toArray o (by simpa using hv2)
        simp only [Op.eqFields, if_pos (hn f (List.mem_cons_self ..)), ho, ht1, Sem.run_bind, p1, p2, Result.andThen_ok, he1]
        cases e
        · simp
        · simpa using ih
      · cases h
    · cases h
theorem binOp_ok {T : Tab} (hT : TyOk P T) (h : Sim1 cx s a w St bl) {o : Oper} {op : BinOp} {t t' d : Nat} {x y : Operand} (ho : o.op = .binOp op t x y t') {u : Out} (hu : out T s (.binOp op t x y t') d = some u) (hob : u.ob) : OpOk P cx s a w St bl o u := by
  simp only [out] at hu
  split at hu
  · rename_i p q hp hq
    obtain ⟨ep, _⟩ := eval_lit h hp
    obtain ⟨eq, _⟩ := eval_lit h hq
    have hex : execOp a.eval o = (do pure (.value (← (do eqGuard op t x y p q; binOp op t p q)))) := by simp only [execOp, ho, ep, eq]
    split at hu
    · rename_i v ob hb
      simp only [Option.some.injEq] at hu; subst hu
      obtain ⟨hr, hs⟩ := binD_run (P := P) (w := w) hb hob x y t
      exact OpOk.pure h (by rw [hex, Sem.run_bind, hr]; rfl) (relV_lit hs)
    · split at hu
      · rename_i ti v ht hb
        split at hu
        · rename_i hds
          simp only [Option.some.injEq] at hu; subst hu
          obtain ⟨i, z, ds, hty⟩ := hT.get ht
          have hb' : P.underlying t = some .bool := by
            have := hty.ok; rw [hds] at this; rw [hty.und]; exact congrArg some this
          unfold binBool at hb
          split at hb
          · rename_i p q
            cases op <;> simp only [Option.some.injEq, reduceCtorEq] at hb <;> subst hb
            · exact OpOk.pure h (by rw [hex, Sem.run_bind, run_bool_eq hb']; rfl) (relV_lit rfl)
            · exact OpOk.pure h (by rw [hex, Sem.run_bind, run_bool_ne hb']; rfl) (relV_lit rfl)
          · cases hb
        · cases hu
      · cases hu
  · rename_i xs ys hp hq
    split at hu
    case h_2 => cases hu
    rename_i ti ht
    split at hu
    case h_2 => cases hu
    rename_i fs hds
    split at hu
    case h_2 => cases hu
    rename_i b hb
    split at hu
    case h_2 => cases hu
    rename_i v hv
    simp only [Option.some.injEq] at hu; subst hu
    have hx := eval_rel h x
    have hy := eval_rel h y
    rw [hp] at hx; rw [hq] at hy
    obtain ⟨vx, ex, rx, _⟩ := (show RelT w St s.M bl (.agg xs) (a.eval x) from hx)
    obtain ⟨vy, ey, ry, _⟩ := (show RelT w St s.M bl (.agg ys) (a.eval y) from hy)
    obtain ⟨hst, hgt, fs', hu', hnm⟩ := (hT t ti ht).eq hob
    obtain ⟨i, z, ds, hty⟩ := hT.get ht
    have hok := hty.ok
    rw [hds] at hok
    obtain ⟨arr, rfl, hm, hmt⟩ := hok
    have hue : P.underlying t = some (.struct arr) := hty.und
    rw [hu'] at hue
    have : fs' = arr := by simpa using hue
    subst this
    have hF : P.fieldsOf t = fs' := by simp [Program.fieldsOf, hu']
    have hrun := run_equalIn_agg (P := P) w 9999 t vx.toArray vy.toArray (by rw [hF]; exact hu') hst
    rw [hF, eqFields_run hT 9998 rx ry fs fs'.toList hm hmt hnm hb] at hrun
    have hex : execOp a.eval o = (do pure (.value (← (do eqGuard op t x y (.agg vx.toArray) (.agg vy.toArray); binOp op t (.agg vx.toArray) (.agg vy.toArray))))) := by simp only [execOp, ho, ex, ey]
    have hg := run_eqGuard_agg (P := P) w op t x y vx.toArray vy.toArray hgt
    unfold eqO at hv
    split at hv
    · cases hv
      exact OpOk.pure h (by rw [hex, Sem.run_bind, Sem.run_bind, hg, Result.andThen_ok, run_eql_struct, hrun]; rfl) (relV_lit rfl)
    · cases hv
      exact OpOk.pure h (by rw [hex, Sem.run_bind, Sem.run_bind, hg, Result.andThen_ok, run_neq_struct, hrun]; rfl) (relV_lit rfl)
    · cases hv
  · cases hu
theorem unOp_ok {T : Tab} (h : Sim1 cx s a w St bl) {o : Oper} {op : UnOp} {t d : Nat} {x : Operand} (ho : o.op = .unOp op t x) {u : Out} (hu : out T s (.unOp op t x) d = some u) : OpOk P cx s a w St bl o u := by
  simp only [out] at hu
  split at hu
  · rename_i b hb
    simp only [Option.some.injEq] at hu; subst hu
    obtain ⟨e, _⟩ := eval_lit h hb
    exact OpOk.pure h (by simp only [execOp, ho, e, Op.unary, Sem.run_bind, Sem.run_pure, Result.andThen_ok]) (relV_lit rfl)
  · rename_i k n hb
    simp only [Option.some.injEq] at hu; subst hu
    obtain ⟨e, _⟩ := eval_lit h hb
    exact OpOk.pure h (by simp only [execOp, ho, e, Op.unary, Op.intArith, Sem.run_bind, Sem.run_pure, Result.andThen_ok]) (relV_lit rfl)
  · cases hu
theorem elems_rel (h : Sim1 cx s a w St bl) {x : AV} {v : Value} {es : List (List D)} (hx : RelV w St s.M bl x v) (he : elemsOf s x = some es) :
    ∃ ad cap, v = .slice ad es.length cap ∧ es.length ≤ cap ∧ (es ≠ [] → ∃ b o sz, ad = some ⟨b, o, none⟩ ∧ RelRow w St es b o sz) := by
  have fromD : ∀ es', RelD w St (.sl es') v → ∃ ad cap, v = .slice ad es'.length cap ∧ es'.length ≤ cap ∧ (es' ≠ [] → ∃ b o sz, ad = some ⟨b, o, none⟩ ∧ RelRow w St es' b o sz) := by
    intro es' hr
    rw [RelD.sl_iff] at hr
    obtain ⟨ad, cap, rfl, h1, _, h2⟩ := hr
    exact ⟨ad, cap, rfl, h1, fun hne => by obtain ⟨b, o, sz, h3, _, h4⟩ := h2 hne; exact ⟨b, o, sz, h3, h4⟩⟩
  unfold elemsOf at he
  split at he
  · cases he; exact fromD _ hx
  · cases he; exact fromD _ (show RelC w St s.M bl (.full es) v from hx).1
  · cases he
    obtain ⟨ad, cap, rfl, h1, _, h2⟩ := (show RelC w St s.M bl (.bo es) v from hx)
    exact ⟨ad, cap, rfl, h1, fun hne => by obtain ⟨b, o, sz, h3, _, h4⟩ := h2 hne; exact ⟨b, o, sz, h3, h4⟩⟩
  · rename_i k lo len
    split at he
    · rename_i sz es' hm
      cases he
      have := ref_data (St' := fun _ => True) h.mem (fun _ _ => trivial) (fun _ _ => trivial) hm (show RelC w St s.M bl (.ref k lo len) v from hx)
      obtain ⟨sz', es2, ad, hm', hl, rfl, hfr⟩ := (show RelC w St s.M bl (.ref k lo len) v from hx)
      rw [hm] at hm'; cases hm'
      have hlen : ((es'.drop lo).take len).length = len := by simp; omega
      rw [hlen]
      rcases h.mem.ob k _ hm with ⟨h1, h2, h3⟩ | ⟨b, c, e, h0, h1, h2, h3, h4, h5, h6⟩
      · subst h2; simp at hl
        exact ⟨ad, _, rfl, by omega, fun hne => absurd (by simp) hne⟩
      · refine ⟨ad, _, rfl, by omega, fun hne => ?_⟩
        have hlt : lo < (bl k).cap := by
          have : 0 < ((es'.drop lo).take len).length := List.length_pos_iff.2 hne
          omega
        obtain ⟨b', hb', rfl⟩ := hfr hlt
        rw [h1] at hb'; cases hb'
        refine ⟨b, _, (bl k).sz, rfl, fun e he => h6.1 e (List.mem_of_mem_drop (List.mem_of_mem_take he)), fun i e he j x hx => ?_⟩
        have he2 : es'[lo + i]? = some e := by
          rw [List.getElem?_take] at he
          split at he
          · rwa [List.getElem?_drop] at he
          · cases he
        obtain ⟨u, hu, hr⟩ := h6.2 (lo + i) e he2 j x hx
        refine ⟨u, ?_, hr⟩
        have : (bl k).o + lo * (bl k).sz + (i * (bl k).sz + j) = (bl k).o + ((lo + i) * (bl k).sz + j) := by rw [Nat.add_mul]; omega
        rw [this]; exact hu
    · cases he
  · cases he
theorem len_ok {T : Tab} (hT : TyOk P T) (h : Sim1 cx s a w St bl) {o : Oper} {c : Call} {x : Operand} (ho : o.op = .call c) (hc : c.callee = .builtin .len) (ha : c.args.toList = [x]) {t : Nat} {ti : TI} (hat : c.argTypes.toList = [t]) (ht : T t = some ti)
    {u : Out} (hu : lenO s ti.ds (eval s x) = some u) : OpOk P cx s a w St bl o u := by
  obtain ⟨i, z, ds, hty⟩ := hT.get ht
  have hargs : c.args = #[x] := by rw [← Array.toArray_toList (xs := c.args), ha]
  have hats : c.argTypes = #[t] := by rw [← Array.toArray_toList (xs := c.argTypes), hat]
  have hx := eval_rel h x
  have hex : ∀ v, a.eval x = v → execOp a.eval o = (do pure (.value (← Builtin.len_ #[t] o.type #[v]))) := by
    intro v hv
    simp only [execOp, ho, resolve, hc, hargs, hats]
    simp [invoke, builtin, hv]
  have key : ∀ e, ti.ds = .sl e → ∀ ad n cap, a.eval x = .slice ad n cap → (execOp a.eval o).run P w = .ok (.value (.int .i64 n)) w := by
    intro e hd ad n cap ev
    have hsl := hty.sl hd
    rw [hex _ ev, Sem.run_bind]; simp [Builtin.len_, run_underlying hsl, goInt]
  unfold lenO at hu
  split at hu
  · rename_i b hd he
    simp only [Option.some.injEq] at hu; subst hu
    obtain ⟨ev, _⟩ := eval_lit h he
    have hstr : P.underlying t = some .string := by have := hty.ok; rw [hd] at this; rw [hty.und]; exact congrArg some this
    exact OpOk.pure h (u := .int .i64 b.size) (by rw [hex _ ev, Sem.run_bind]; simp [Builtin.len_, run_underlying hstr, goInt]) (relV_lit rfl)
  · rename_i e es hd he
    simp only [Option.some.injEq] at hu; subst hu
    obtain ⟨ad, cap, hv, _⟩ := elems_rel h hx (es := es) (by rw [he]; rfl)
    exact OpOk.pure h (key _ hd _ _ _ hv) (relV_lit rfl)
  · rename_i e es hd he
    simp only [Option.some.injEq] at hu; subst hu
    obtain ⟨ad, cap, hv, _⟩ := elems_rel h hx (es := es) (by rw [he]; rfl)
    exact OpOk.pure h (key _ hd _ _ _ hv) (relV_lit rfl)
  · rename_i e es hd he
    simp only [Option.some.injEq] at hu; subst hu
    obtain ⟨ad, cap, hv, _⟩ := elems_rel h hx (es := es) (by rw [he]; rfl)
    exact OpOk.pure h (key _ hd _ _ _ hv) (relV_lit rfl)
  · rename_i e k lo len hd he
    simp only [Option.some.injEq] at hu; subst hu
    rw [he] at hx
    obtain ⟨sz', es2, ad, hm', hl, hv, hfr⟩ := (show RelC w St s.M bl (.ref k lo len) (a.eval x) from hx)
    exact OpOk.pure h (key _ hd _ _ _ hv) (relV_lit rfl)
  · cases hu
theorem extract_ok {T : Tab} (h : Sim1 cx s a w St bl) {o : Oper} {t : Operand} {j d : Nat} (ho : o.op = .extract t j) {u : Out} (hu : out T s (.extract t j) d = some u) : OpOk P cx s a w St bl o u := by
  simp only [out] at hu
  split at hu
  · rename_i vs he
    split at hu
    · rename_i v hv
      simp only [Option.some.injEq] at hu; subst hu
      have hx := eval_rel h t
      rw [he] at hx
      obtain ⟨us, hu, hall⟩ := (show ∃ us : List Value, a.eval t = .tuple us.toArray ∧ All2 (RelT w St s.M bl) vs us from hx)
      obtain ⟨y, hy, hr⟩ := hall.get j v hv
      refine OpOk.pure h (u := y) ?_ (RelV.of_t hr)
      simp only [execOp, ho, hu, Instr.extract, List.getElem?_toArray, hy]
      rfl
    · cases hu
  · cases hu
theorem intOf?_eval (h : Sim1 cx s a w St bl) {x : Operand} {n : Int} (he : intOf? (eval s x) = some n) : ∃ k, a.eval x = .int k n := by
  unfold intOf? at he
  split at he
  · rename_i k m hx
    cases he
    exact ⟨k, (eval_lit h hx).1⟩
  · cases he
theorem index_ok {T : Tab} (hT : TyOk P T) (h : Sim1 cx s a w St bl) {o : Oper} {t d : Nat} {x i : Operand} (ho : o.op = .index t x i) {u : Out} (hu : out T s (.index t x i) d = some u) (hob : u.ob) : OpOk P cx s a w St bl o u := by
  simp only [out] at hu
  split at hu
  · rename_i ti b n ht hb hn
    split at hu
    · rename_i hds
      simp only [Option.some.injEq] at hu; subst hu
      obtain ⟨eb, _⟩ := eval_lit h hb
      obtain ⟨k, en⟩ := intOf?_eval h hn
      obtain ⟨i, z, ds, hty⟩ := hT.get ht
      have hstr : P.underlying t = some .string := by have := hty.ok; rw [hds] at this; rw [hty.und]; exact congrArg some this
      obtain ⟨h0, h1⟩ := hob
      have h2 : n.toNat < b.size := by omega
      refine OpOk.pure h (u := .int .u8 (b[n.toNat]'h2).toNat) ?_ ?_
      · simp only [execOp, ho, eb, en, Sem.run_bind, run_index_string (P := P) w t b k n hstr]
        rw [dif_pos ⟨h0, h1⟩]; rfl
      · rw [dif_pos h2]; exact relV_lit rfl
    · cases hu
  · cases hu
theorem indexAt_run {t e : Nat} (hsl : P.underlying t = some (.slice e)) {te : TI} {ie : TypeInfo} {ze : Value} {dse : TypeDesc} (hty : TyF P e te ie ze dse) (b o len cap : Nat) (k : IntKind) (n : Int) (h0 : 0 ≤ n) (h1 : n < len) :
    (Instr.indexAt t (.slice (some ⟨b, o, none⟩) len cap) (.int k n)).run P w = .ok (.pointer (some ⟨b, o + n.toNat * te.size, none⟩)) w := by
  have hadd : ∀ j, (⟨b, o, none⟩ : Addr).add j = ⟨b, o + j, none⟩ := by intro j; unfold Addr.add; split <;> simp_all
  simp [Instr.indexAt, run_underlying hsl, asIntOf, h0, h1, hty.sizeOf, hadd]
theorem indexAddr_ok {T : Tab} (hT : TyOk P T) (h : Sim1 cx s a w St bl) {o : Oper} {t d : Nat} {x i : Operand} (ho : o.op = .indexAddr t x i) {u : Out} (hu : out T s (.indexAddr t x i) d = some u) (hob : u.ob) : OpOk P cx s a w St bl o u := by
  simp only [out] at hu
  unfold indexAddrO at hu
  split at hu
  case h_2 => cases hu
  rename_i ti n ht hn
  obtain ⟨k, en⟩ := intOf?_eval h hn
  split at hu
  case h_3 => cases hu
  case h_2 =>
    rename_i m e hds
    obtain ⟨_, _, _, htt⟩ := hT.get ht
    have hx := eval_rel h x
    split at hu
    case h_2 => cases hu
    rename_i te k2 j2 off hte he
    simp only [Option.some.injEq] at hu; subst hu
    rw [he] at hx
    obtain ⟨b, ob, h1, h2, h3⟩ := (show RelP s.M bl k2 j2 off (a.eval x) from hx)
    obtain ⟨_, _, _, hte'⟩ := hT.get hte
    obtain ⟨h4, h5⟩ := hob
    have hu1 : P.underlying t = some (.array m e) := by
      have := htt.ok; rw [hds] at this; rw [htt.und]; exact congrArg some this
    have hadd : ∀ o2 j, (⟨b, o2, none⟩ : Addr).add j = ⟨b, o2 + j, none⟩ := by intro o2 j; unfold Addr.add; split <;> simp_all
    refine OpOk.pure h (u := .pointer (some ⟨b, (bl k2).o + (j2 * (bl k2).sz + off) + n.toNat * te.size, none⟩)) ?_ (RelV.of_c (x := .ptr ..) ⟨b, ob, h1, h2, by simp only [Value.pointer.injEq, Option.some.injEq, Addr.mk.injEq, and_true, true_and]; omega⟩)
    simp only [execOp, ho, en, h3]
    simp [Instr.indexAt, run_underlying hu1, asIntOf, h4, h5, Instr.sureAddr, hte'.sizeOf, hadd]
  rename_i e hds
  obtain ⟨_, _, _, htt⟩ := hT.get ht
  have hsl := htt.sl hds
  have hx := eval_rel h x
  have hex : ∀ v, a.eval x = v → execOp a.eval o = (do pure (.value (← Instr.indexAt t v (.int k n)))) := by
    intro v hv; simp only [execOp, ho, en, hv]
  -- an immutable slice
  have imm : ∀ (es : List (List D)) (te : TI), T e = some te → (0 ≤ n ∧ n < es.length ∧ (es.getD n.toNat []).length = te.size) →
      (∀ (i2 : List D), i2 = es.getD n.toNat [] → ∃ b o sz cap, a.eval x = .slice (some ⟨b, o, none⟩) es.length cap ∧ Free s.M bl b ∧ b < w.heap.size ∧ RelRow w St es b o sz) →
      OpOk P cx s a w St bl o (pureO s (.dp (es.getD n.toNat [])) [] (0 ≤ n ∧ n < es.length ∧ (es.getD n.toNat []).length = te.size)) := by
    intro es te hte ⟨h0, h1, h2⟩ hh
    obtain ⟨b, o', sz, cap, hv, hf, hlt, hrow⟩ := hh _ rfl
    obtain ⟨_, _, _, hte'⟩ := hT.get hte
    have hi : n.toNat < es.length := by omega
    have hget := getD_some (d := []) hi
    have hsz : sz = te.size := by rw [← h2]; exact (hrow.1 _ (List.mem_of_getElem? hget)).symm
    refine OpOk.pure h (u := .pointer (some ⟨b, o' + n.toNat * te.size, none⟩)) ?_ ?_
    · rw [hex _ hv, Sem.run_bind, indexAt_run hsl hte' b o' es.length cap k n h0 h1]; rfl
    · refine RelV.of_c (x := .dp _) ⟨b, _, rfl, hf, hlt, fun j y hy => ?_⟩
      obtain ⟨u, hu, hr⟩ := hrow.2 n.toNat _ hget j y hy
      refine ⟨u, ?_, hr⟩
      rw [← hsz, Nat.add_assoc]; exact hu
  have stfree : ∀ b, St b → Free s.M bl b ∧ b < w.heap.size := fun b hb => ⟨(h.mem.st b hb).2, (h.mem.st b hb).1⟩
  have fromD : ∀ es : List (List D), RelD w St (.sl es) (a.eval x) → n < es.length → 0 ≤ n → ∃ b o sz cap, a.eval x = .slice (some ⟨b, o, none⟩) es.length cap ∧ Free s.M bl b ∧ b < w.heap.size ∧ RelRow w St es b o sz := by
    intro es hr h1 h0
    rw [RelD.sl_iff] at hr
    obtain ⟨ad, cap, hv, _, _, h3⟩ := hr
    obtain ⟨b, o', sz, rfl, hb, hrow⟩ := h3 (by rintro rfl; simp at h1; omega)
    exact ⟨b, o', sz, cap, hv, (stfree b hb).1, (stfree b hb).2, hrow⟩
  split at hu
  · rename_i te es hte he
    simp only [Option.some.injEq] at hu; subst hu
    rw [he] at hx
    exact imm es te hte hob fun _ _ => fromD es hx hob.2.1 hob.1
  · rename_i te es hte he
    simp only [Option.some.injEq] at hu; subst hu
    rw [he] at hx
    exact imm es te hte hob fun _ _ => fromD es (show RelC w St s.M bl (.full es) _ from hx).1 hob.2.1 hob.1
  · rename_i te es hte he
    simp only [Option.some.injEq] at hu; subst hu
    rw [he] at hx
    refine imm es te hte hob fun _ _ => ?_
    obtain ⟨ad, cap, hv, _, _, h3⟩ := (show RelC w St s.M bl (.bo es) _ from hx)
    obtain ⟨b, o', sz, rfl, hb, hrow⟩ := h3 (by rintro rfl; have := hob.1; have := hob.2.1; simp at this; omega)
    exact ⟨b, o', sz, cap, hv, hb.1, hb.2, hrow⟩
  · rename_i te k2 lo len hte he
    split at hu
    · rename_i sz es hm
      simp only [Option.some.injEq] at hu; subst hu
      obtain ⟨h0, h1, h2⟩ := hob
      rw [he] at hx
      obtain ⟨sz', es2, ad, hm', hl, hv, hfr⟩ := (show RelC w St s.M bl (.ref k2 lo len) (a.eval x) from hx)
      rw [hm] at hm'; cases hm'
      obtain ⟨_, _, _, hte'⟩ := hT.get hte
      rcases h.mem.ob k2 _ hm with ⟨g1, g2, g3⟩ | ⟨b, c, e', g0, g1, g2, g3, g4, g5, g6⟩
      · subst g2; simp at hl; omega
      · obtain ⟨b', hb', rfl⟩ := hfr (by omega)
        rw [g1] at hb'; cases hb'
        refine OpOk.pure h (u := .pointer (some ⟨b, (bl k2).o + lo * (bl k2).sz + n.toNat * te.size, none⟩)) ?_ (RelV.of_c (x := .ptr ..) ⟨b, _, hm, g1, ?_⟩)
        · rw [hex _ hv, Sem.run_bind, indexAt_run hsl hte' b _ len _ k n h0 h1]; rfl
        · rw [← h2, g0, Nat.add_mul]; simp only [Value.pointer.injEq, Option.some.injEq, Addr.mk.injEq, and_true, true_and]; omega
    · cases hu
  · cases hu
theorem mapM_get {α β : Type} {f : α → Option β} : ∀ {l : List α} {r : List β}, l.mapM f = some r → ∀ (j : Nat) y, r[j]? = some y → ∃ x, l[j]? = some x ∧ f x = some y
  | [], r, h, j, y, hy => by simp at h; subst h; simp at hy
  | x :: l, r, h, j, y, hy => by
    simp only [List.mapM_cons, Option.bind_eq_bind, Option.pure_def, Option.bind_eq_some_iff] at h
    obtain ⟨b, hb, bs, hbs, hr⟩ := h
    cases hr
    cases j with
    | zero => simp at hy; subst hy; exact ⟨x, rfl, hb⟩
    | succ j => exact mapM_get hbs j y (by simpa using hy)
theorem field_of {t f o u n : Nat} {ti : TI} {i : TypeInfo} {z : Value} {ds : TypeDesc} (hty : TyF P t ti i z ds) {fs : List (Nat × Nat × Nat)} (hd : ti.ds = .st fs) (hf : fs[f]? = some (o, u, n)) :
    ∃ (arr : Array Field) (fd : Field), P.underlying t = some (.struct arr) ∧ arr[f]? = some fd ∧ fd.offset = o ∧ fd.type = u ∧ ∃ i2, P.info? u = some i2 ∧ i2.size = n := by
  have hk := hty.ok
  rw [hd] at hk
  obtain ⟨arr, rfl, h1, h2⟩ := hk
  have hlt : f < arr.toList.length := by
    have h5 : arr.toList.length = fs.length := by have := congrArg List.length h2; simpa using this
    rw [h5]; exact (List.getElem?_eq_some_iff.1 hf).1
  obtain ⟨fd, hfd⟩ : ∃ fd, arr.toList[f]? = some fd := ⟨_, List.getElem?_eq_getElem hlt⟩
  have h4 : ((arr.toList.map (·.type))[f]?) = (fs.map (·.2.1))[f]? := by rw [h2]
  simp only [List.getElem?_map, hfd, hf, Option.map_some, Option.some.injEq] at h4
  have h5 : (fs.map fun x => (x.1, x.2.2))[f]? = some (o, n) := by simp [hf]
  obtain ⟨fd', hfd', hm⟩ := mapM_get h1 f _ h5
  rw [hfd] at hfd'; cases hfd'
  simp only [Option.map_eq_some_iff, Prod.mk.injEq] at hm
  obtain ⟨i2, hi2, hoff, hsz⟩ := hm
  refine ⟨arr, fd, hty.und, by simpa using hfd, hoff, h4, i2, ?_, hsz⟩
  rw [← h4]; exact hi2
theorem fieldAddr_ok {T : Tab} (hT : TyOk P T) (h : Sim1 cx s a w St bl) {o : Oper} {t f d : Nat} {x : Operand} (ho : o.op = .fieldAddr t x f) {u : Out} (hu : out T s (.fieldAddr t x f) d = some u) (hob : u.ob) : OpOk P cx s a w St bl o u := by
  simp only [out] at hu
  unfold fieldAddrO at hu
  split at hu
  case h_2 => cases hu
  rename_i ti ht
  split at hu
  case h_2 => cases hu
  rename_i fs hds
  split at hu
  case h_2 => cases hu
  rename_i off u' n hf
  obtain ⟨i, z, ds, hty⟩ := hT.get ht
  obtain ⟨arr, fd, hu1, hfd, rfl, rfl, i2, hi2, rfl⟩ := field_of hty hds hf
  have hx := eval_rel h x
  have key : ∀ b o2, a.eval x = .pointer (some ⟨b, o2, none⟩) → i2.size ≠ 0 → (execOp a.eval o).run P w = .ok (.value (.pointer (some ⟨b, o2 + fd.offset, none⟩))) w := by
    intro b o2 hv hn
    have hadd : (⟨b, o2, none⟩ : Addr).add fd.offset = ⟨b, o2 + fd.offset, none⟩ := by unfold Addr.add; split <;> simp_all
    simp only [execOp, ho, hv]
    simp [Instr.fieldAt, run_underlying hu1, hfd, Instr.sureAddr, fieldPlace, Go.sizeOf, typeInfo, hi2, hn, hadd]
  split at hu
  · rename_i k i3 off3 he
    simp only [Option.some.injEq] at hu; subst hu
    rw [he] at hx
    obtain ⟨b, ob, h1, h2, h3⟩ := (show RelP s.M bl k i3 off3 (a.eval x) from hx)
    exact OpOk.pure h (key _ _ h3 hob) (RelV.of_c (x := .ptr ..) ⟨b, ob, h1, h2, by simp only [Value.pointer.injEq, Option.some.injEq, Addr.mk.injEq, and_true, true_and]; omega⟩)
  · rename_i cs he
    simp only [Option.some.injEq] at hu; subst hu
    rw [he] at hx
    obtain ⟨b, o', hv, h2, h3, h4⟩ := (show RelC w St s.M bl (.dp cs) (a.eval x) from hx)
    refine OpOk.pure h (key _ _ hv hob) (RelV.of_c (x := .dp _) ⟨b, _, rfl, h2, h3, fun j y hy => ?_⟩)
    rw [List.getElem?_drop] at hy
    obtain ⟨u, hu, hr⟩ := h4 _ y hy
    exact ⟨u, by rw [Nat.add_assoc]; exact hu, hr⟩
  · cases hu
end
end Go.Pw

namespace Go.Pw
open Go
theorem Ob.like_trans {a b c : Ob} (h : a.like b) (h' : b.like c) : a.like c := by
  cases a <;> cases b <;> cases c <;> simp_all [Ob.like]
theorem Mv.trans {w w1 w2 : World} {St St1 St2 : Nat → Prop} {M M1 M2 : Mm} {bl bl1 bl2 : Lc} {X : List Nat} (h : Mv w St M bl w1 St1 M1 bl1 (· ∈ X)) (h' : Mv w1 St1 M1 bl1 w2 St2 M2 bl2 (· ∈ ([] : List Nat))) : Mv w St M bl w2 St2 M2 bl2 (· ∈ X) := by
  refine ⟨fun b hb => ⟨(h'.st b (h.st b hb).1).1, (h'.st b (h.st b hb).1).2.trans (h.st b hb).2⟩, fun b hb hf => ?_, Nat.le_trans h.sz h'.sz, fun k o hx hm => ?_⟩
  · obtain ⟨h1, h2⟩ := h.fr b hb hf
    obtain ⟨h3, h4⟩ := h'.fr b (Nat.lt_of_lt_of_le hb h.sz) h1
    exact ⟨h3, h4.trans h2⟩
  · obtain ⟨⟨o1, hm1, hl1⟩, he1⟩ := h.key k o hx hm
    obtain ⟨⟨o2, hm2, hl2⟩, he2⟩ := h'.key k o1 (by simp) hm1
    exact ⟨⟨o2, hm2, Ob.like_trans hl1 hl2⟩, he2.trans he1⟩
section
variable {P : Program} {cx : Ctx} {s : S} {a : Act} {w : World} {St : Nat → Prop} {bl : Lc}
theorem frz_rel {St' : Nat → Prop} (hm : Mem w St s.M bl) (hst : ∀ b, St b → St' b) : ∀ {cs : List AV} {vs : List Value} {ds : List D} {Y : List Nat}, frz s cs = some (ds, Y) → (∀ k o b, k ∈ Y → s.M k = some o → (bl k).b = some b → St' b) → All2 (RelC w St s.M bl) cs vs → All2 (RelD w St') ds vs
  | [], vs, ds, Y, hf, _, hr => by simp only [frz, Option.some.injEq, Prod.mk.injEq] at hf; obtain ⟨rfl, rfl⟩ := hf; cases hr; exact .nil
  | c :: cs, vs, ds, Y, hf, hY, hr => by
    simp only [frz] at hf
    split at hf
    · rename_i x k xs ks h1 h2
      simp only [Option.some.injEq, Prod.mk.injEq] at hf
      obtain ⟨rfl, rfl⟩ := hf
      cases hr with
      | cons hr ht =>
        refine .cons ?_ (frz_rel hm hst h2 (fun k' o b hk => hY k' o b (List.mem_append_right _ hk)) ht)
        unfold frz1 at h1
        split at h1
        · cases h1; exact RelD.mv (fun b hb => ⟨hst b hb, rfl⟩) hr
        · cases h1; exact RelD.mv (fun b hb => ⟨hst b hb, rfl⟩) (show RelC w St s.M bl (.full _) _ from hr).1
        · rename_i k2 lo len
          split at h1
          · rename_i sz es hm2
            cases h1
            exact ref_data hm hst (fun b hb => hY k2 _ b (List.mem_append_left _ (by simp)) hm2 hb) hm2 hr
          · cases h1
        · cases h1
    · cases hf
theorem store_run {T : Tab} (hT : TyOk P T) {t : Nat} {ti : TI} (ht : T t = some ti) {b o : Nat} {c : Array Value} {e : TypeId} (hb : w.heap[b]? = some (.cells c e (0, 0))) {v : Value} (hl : v.cells.toList.length = ti.size) (h1 : ∀ u ∈ v.cells.toList, u.oneCell' = true) (hfit : o + v.cells.toList.length ≤ c.size) :
    (Instr.storeAt t (.pointer (some ⟨b, o, none⟩)) v).run P w = .ok () (w.setRow b (splice c.toList o v.cells.toList).toArray) := by
  obtain ⟨i, z, ds, hty⟩ := hT.get ht
  have := run_storeCells_at P b o e v.cells.toList 0 c w hb (by simpa using hfit) h1
  have hl' : v.cells.size = ti.size := by simpa using hl
  simp only [Nat.add_zero] at this
  simp [Instr.storeAt, Instr.sureAddr, storeVar, hty.sizeOf, hl', this, splice]
theorem setRow_keeps (b : Nat) (cs : Array Value) : ∀ b', b' ≠ b → (w.setRow b cs).heap[b']? = w.heap[b']? := fun b' hb => setRow_other w b b' cs hb
theorem splice_get {α : Type} (cs vs : List α) (off k : Nat) (h : off + vs.length ≤ cs.length) : (splice cs off vs)[k]? = if k < off then cs[k]? else if k < off + vs.length then vs[k - off]? else cs[k]? := by
  unfold splice
  rw [List.append_assoc, List.getElem?_append]
  have h1 : (cs.take off).length = off := by simp; omega
  rw [h1]
  split
  · rw [List.getElem?_take_of_lt ‹_›]
  · rw [List.getElem?_append]
    split
    · rw [if_pos (by omega)]
    · rw [if_neg (by omega), List.getElem?_drop]
      congr 1
      omega
theorem splice_length {α : Type} (cs vs : List α) (off : Nat) (h : off + vs.length ≤ cs.length) : (splice cs off vs).length = cs.length := by
  unfold splice; simp; omega
theorem store_ok {T : Tab} (hT : TyOk P T) (h : Sim1 cx s a w St bl) {o : Oper} {t : Nat} {x y : Operand} (ho : o.op = .store t x y) {u : Out} (hu : storeO s T t (eval s x) (eval s y) = some u) (hob : u.ob) : OpOk P cx s a w St bl o u := by
  have hx := eval_rel h x
  have hy := eval_rel h y
  have hex : execOp a.eval o = (do Instr.storeAt t (a.eval x) (a.eval y); pure .skip) := by simp only [execOp, ho]
  unfold storeO at hu
  split at hu
  case h_2 => cases hu
  rename_i ti k i off vs ht he hc
  obtain ⟨hrel, hone⟩ := cells_rel hy hc
  rw [he] at hx
  obtain ⟨b, ob, hm, hb, hv⟩ := (show RelP s.M bl k i off (a.eval x) from hx)
  rw [hm] at hu
  cases ob with
  | raw x => cases hu
  | box cs =>
    simp only [Option.some.injEq] at hu; subst hu
    obtain ⟨rfl, hlen, hfit⟩ := hob
    obtain ⟨b', c, e, h1, h2, h3, h4⟩ := h.mem.ob k _ hm
    rw [hb] at h1; cases h1
    have hvl : (a.eval y).cells.toList.length = ti.size := by rw [← hrel.length]; exact hlen
    have hcl : cs.length = c.size := by simpa using h4.length
    have hr := store_run (w := w) hT ht h3 (o := off) hvl hone (by rw [← hrel.length, ← hcl]; exact hfit)
    have hlt : b < w.heap.size := h.mem.blt hm hb
    have := OpOk.obj (P := P) (X := []) (W := [k]) (R := k :: (eval s y).keys) (ob := 0 = 0 ∧ vs.length = ti.size ∧ off + vs.length ≤ cs.length) h (o := o) (k := k) (ob' := .box (splice cs off vs)) (l := bl k) (v := .undef) (u := undef) (nx := .skip)
      (w' := w.setRow b (splice c.toList off (a.eval y).cells.toList).toArray)
      (by rw [hex, hv, h2]; simp only [Nat.zero_mul, Nat.zero_add, Sem.run_bind, hr]; rfl) (.inr ⟨rfl, rfl⟩) rfl rfl rfl (by simp)
      (fun b' hb' hne => setRow_keeps b _ b' (by rintro rfl; exact hne _ hm hb)) (fun b' hb' => .inr ⟨_, hm, hb'⟩) (.inr (.inl ⟨rfl, fun o2 hm2 => by rw [hm] at hm2; cases hm2; trivial⟩)) (fun _ _ => ⟨rfl, _, hm⟩)
      (fun M' bl' hM hbl mv => ⟨b, _, e, by rw [hbl, upd_same]; exact hb, by rw [hbl, upd_same]; exact h2, setRow_heap w b c _ e _ h3, by
        refine all2_imp (all2_splice h4 hrel off) fun p q hr => RelC.mv mv (by simp) hr⟩) (fun _ _ _ _ => trivial)
    rwa [scrM_nil_upd] at this
  | row sz es =>
    dsimp only at hu
    split at hu
    case h_2 => cases hu
    rename_i ds Y hfz
    simp only [Option.some.injEq] at hu; subst hu
    obtain ⟨hkY, hYr, hi, hdl, hfit⟩ := hob
    obtain ⟨St', hsub, hYst, mv1, mem1, frm1⟩ := h.freeze Y hYr
    have hds := frz_rel (St' := St') h.mem hsub hfz (fun k' o b' hk' hm' hb' => hYst k' o b' hk' hm' hb') hrel
    have h1 : Sim1 cx ⟨fun t => scr Y (s.tm t), dropM Y s.M⟩ a w St' bl := h.step0 mv1 mem1 frm1
    have hm1 : dropM Y s.M k = some (.row sz es) := by simp only [dropM]; rw [if_neg (by simpa using hkY), hm]; rfl
    rcases h1.mem.ob k _ hm1 with ⟨g1, g2, g3⟩ | ⟨b', c, e, g0, g1, g2, g3, g4, g5, g6⟩
    · subst g2; simp at hi
    rw [hb] at g1; cases g1
    subst g0
    have hei := getD_some (d := []) hi
    have helen : (es.getD i []).length = (bl k).sz := g6.1 _ (List.mem_of_getElem? hei)
    have hvl : (a.eval y).cells.toList.length = ti.size := by rw [← hds.length]; exact hdl
    have hnl : (a.eval y).cells.toList.length = ds.length := hds.length.symm
    have hle : (i + 1) * (bl k).sz ≤ es.length * (bl k).sz := Nat.mul_le_mul_right _ hi
    have hle2 : es.length * (bl k).sz ≤ (bl k).cap * (bl k).sz := Nat.mul_le_mul_right _ g4
    rw [Nat.add_mul, Nat.one_mul] at hle
    have hr := store_run (w := w) hT ht g2 (o := (bl k).o + (i * (bl k).sz + off)) hvl hone (by rw [hnl]; omega)
    obtain ⟨mv2, mem2, frm2⟩ := h1.obj (k := k) (X := []) (ob' := .row (bl k).sz (es.set i (splice (es.getD i []) off ds))) (l := bl k) (w' := w.setRow b (splice c.toList ((bl k).o + (i * (bl k).sz + off)) (a.eval y).cells.toList).toArray)
      rfl rfl rfl (by simp) (fun b' hb' hne => setRow_keeps b _ b' (by rintro rfl; exact hne _ hm1 hb)) (fun b' hb' => .inr ⟨_, hm1, hb'⟩)
      (.inr (.inl ⟨rfl, fun o2 hm2 => by dsimp only at hm2; rw [hm1] at hm2; cases hm2; exact ⟨rfl, by simp⟩⟩)) (fun _ _ => ⟨rfl, _, hm1⟩)
      (fun M' bl' hM hbl mv => by
        refine .inr ⟨b, _, e, by rw [hbl, upd_same], by rw [hbl, upd_same]; exact hb, setRow_heap w b c _ e _ g2, ?_, ?_, ?_, ?_⟩
        · rw [hbl, upd_same, ← g3]
          have := splice_length c.toList (a.eval y).cells.toList ((bl k).o + (i * (bl k).sz + off)) (by rw [hnl]; simp only [Array.length_toList]; omega)
          simpa using this
        · rw [hbl, upd_same, List.length_set]; exact g4
        · rw [hbl, upd_same]; exact g5
        · rw [hbl, upd_same]
          refine ⟨fun e' he' => ?_, fun i' e' he' j x hx => ?_⟩
          · rcases List.mem_or_eq_of_mem_set he' with h5 | rfl
            · exact g6.1 e' h5
            · rw [splice_length _ _ _ hfit]; exact helen
          · have hcell : ∀ q, (w.setRow b (splice c.toList ((bl k).o + (i * (bl k).sz + off)) (a.eval y).cells.toList).toArray).cell? ⟨b, q, none⟩ = (splice c.toList ((bl k).o + (i * (bl k).sz + off)) (a.eval y).cells.toList)[q]? := by
              intro q
              rw [cell_of_row _ b q _ e (0, 0) (setRow_heap w b c _ e _ g2)]
              simp
            have hold : ∀ q, w.cell? ⟨b, q, none⟩ = c.toList[q]? := by
              intro q; rw [cell_of_row w b q c e (0, 0) g2]; simp
            rw [hcell, splice_get _ _ _ _ (by rw [hnl]; simp only [Array.length_toList]; omega), hnl]
            have stay : ∀ u, RelD w St' x u → RelD (w.setRow b (splice c.toList ((bl k).o + (i * (bl k).sz + off)) (a.eval y).cells.toList).toArray) St' x u := fun u hu => hu.mv mv.st
            by_cases hii : i' = i
            · subst hii
              rw [List.getElem?_set_self hi] at he'
              cases he'
              rw [splice_get _ _ _ _ hfit] at hx
              have hj : j < (bl k).sz := by
                have h9 : (es.getD i' [])[j]? = some x ∨ j < off + ds.length := by
                  by_cases q1 : j < off
                  · exact .inr (by omega)
                  · by_cases q2 : j < off + ds.length
                    · exact .inr q2
                    · rw [if_neg q1, if_neg q2] at hx; exact .inl hx
                rcases h9 with h9 | h9
                · have := (List.getElem?_eq_some_iff.1 h9).1; omega
                · omega
              by_cases q1 : j < off
              · rw [if_pos q1] at hx
                rw [if_pos (by omega), ← hold]
                obtain ⟨u, hu, hr⟩ := g6.2 i' _ hei j x hx
                exact ⟨u, hu, stay u hr⟩
              · by_cases q2 : j < off + ds.length
                · rw [if_neg q1, if_pos q2] at hx
                  rw [if_neg (by omega), if_pos (by omega)]
                  obtain ⟨u, hu, hr⟩ := hds.get _ _ hx
                  refine ⟨u, ?_, stay u hr⟩
                  rw [show (bl k).o + (i' * (bl k).sz + j) - ((bl k).o + (i' * (bl k).sz + off)) = j - off by omega]
                  exact hu
                · rw [if_neg q1, if_neg q2] at hx
                  rw [if_neg (by omega), if_neg (by omega), ← hold]
                  obtain ⟨u, hu, hr⟩ := g6.2 i' _ hei j x hx
                  exact ⟨u, hu, stay u hr⟩
            · rw [List.getElem?_set_ne (Ne.symm hii)] at he'
              obtain ⟨u, hu, hr⟩ := g6.2 i' _ he' j x hx
              have hjl : j < (bl k).sz := by
                have := g6.1 _ (List.mem_of_getElem? he')
                have := (List.getElem?_eq_some_iff.1 hx).1
                omega
              refine ⟨u, ?_, stay u hr⟩
              rw [← hu, hold]
              rcases Nat.lt_or_gt_of_ne hii with hlt | hgt
              · have : (i' + 1) * (bl k).sz ≤ i * (bl k).sz := Nat.mul_le_mul_right _ hlt
                rw [Nat.add_mul, Nat.one_mul] at this
                rw [if_pos (by omega)]
              · have : (i + 1) * (bl k).sz ≤ i' * (bl k).sz := Nat.mul_le_mul_right _ hgt
                rw [Nat.add_mul, Nat.one_mul] at this
                rw [if_neg (by omega), if_neg (by omega)])
    rw [scrM_nil_upd] at mv2 mem2 frm2
    have hupd : upd bl k (bl k) = bl := by funext q; by_cases e : q = k <;> simp [upd, e]
    rw [hupd] at mv2 mem2 frm2
    exact ⟨.skip, undef, _, St', bl, by rw [hex, hv]; simp only [Sem.run_bind, hr]; rfl, .inr ⟨rfl, rfl⟩, mv1.trans mv2, mem2, frm2, trivial⟩
theorem foldl_set (off : Nat) : ∀ (vs : List Value) (n : Nat) (cs : Array Value), off + n + vs.length ≤ cs.size → ((vs.zipIdx n).foldl (fun cs p => cs.setIfInBounds (off + p.2) p.1) cs).toList = cs.toList.take (off + n) ++ vs ++ cs.toList.drop (off + n + vs.length)
  | [], n, cs, _ => by simp
  | v :: vs, n, cs, h => by
    simp only [List.zipIdx_cons, List.foldl_cons]
    simp only [List.length_cons] at h
    rw [foldl_set off vs (n + 1) _ (by simp; omega)]
    have e := list_seg_step cs.toList (off + n) v vs (by simp; omega)
    simp only [Array.toList_setIfInBounds, ← Nat.add_assoc] at e ⊢
    rw [e]
    simp only [List.length_cons]
    congr 2
theorem fill_rel {M : Mm} (place : Nat → Option (Nat × Nat)) : ∀ (parts : List (Nat × AV)) (vparts : List (Nat × Value)) (cells : List AV) (vcells : Array Value) (r : List AV),
    All2 (fun (p : Nat × AV) (q : Nat × Value) => p.1 = q.1 ∧ ∀ vs, p.2.cells = some vs → All2 (RelC w St M bl) vs q.2.cells.toList) parts vparts → All2 (RelC w St M bl) cells vcells.toList → fillA place cells parts = some r →
    ∃ vr, Instr.fill place vcells vparts = some vr ∧ All2 (RelC w St M bl) r vr.toList
  | [], vparts, cells, vcells, r, hp, hc, hf => by
    cases hp
    simp only [fillA, Option.some.injEq] at hf; subst hf
    exact ⟨vcells, rfl, hc⟩
  | (i, v) :: parts, vparts, cells, vcells, r, hp, hc, hf => by
    cases hp with
    | cons h1 ht =>
      rename_i q vparts
      obtain ⟨qi, qv⟩ := q
      obtain ⟨hqi, hcell⟩ := h1
      dsimp only at hqi hcell
      subst hqi
      simp only [fillA] at hf
      split at hf
      · rename_i off size vs hpl hvs
        split at hf
        · rename_i hcond
          have hrel := hcell vs hvs
          have hl1 : qv.cells.size = vs.length := by simpa using hrel.length.symm
          have hl2 : vcells.size = cells.length := by simpa using hc.length.symm
          have hset := foldl_set off qv.cells.toList 0 vcells (by simp only [Array.length_toList]; omega)
          obtain ⟨vr, h3, h4⟩ := fill_rel place parts vparts (splice cells off vs) (qv.cells.zipIdx.foldl (fun cs p => cs.setIfInBounds (off + p.2) p.1) vcells) r ht (by
            have e : (qv.cells.zipIdx.foldl (fun cs p => cs.setIfInBounds (off + p.2) p.1) vcells).toList = splice vcells.toList off qv.cells.toList := by
              rw [← Array.foldl_toList, Array.toList_zipIdx, hset]
              rfl
            rw [e]; exact all2_splice hc hrel off) hf
          refine ⟨vr, ?_, h4⟩
          simp only [Instr.fill, hpl]
          rw [if_neg (by simp; omega)]
          exact h3
        · cases hf
      · cases hf
theorem parts_rel (h : Sim1 cx s a w St bl) : ∀ (ps : List (Nat × Operand)), All2 (fun (p : Nat × AV) (q : Nat × Value) => p.1 = q.1 ∧ ∀ vs, p.2.cells = some vs → All2 (RelC w St s.M bl) vs q.2.cells.toList) (ps.map fun p => (p.1, eval s p.2)) (ps.map fun p => (p.1, a.eval p.2))
  | [] => .nil
  | p :: ps => .cons ⟨rfl, fun _ hvs => (cells_rel (eval_rel h p.2) hvs).1⟩ (parts_rel h ps)
theorem zero_rel {M : Mm} (l : List Value) : All2 (RelC w St M bl) (l.map avOf) l := all2_map (All2.of_get rfl fun j x y hx hy => by rw [hx] at hy; cases hy; exact avOf_rel x)
theorem build_ok {T : Tab} (hT : TyOk P T) (h : Sim1 cx s a w St bl) {o : Oper} {t d : Nat} {parts : Array (Nat × Operand)} (ho : o.op = .build t parts) {u : Out} (hu : out T s (.build t parts) d = some u) (hob : u.ob) : OpOk P cx s a w St bl o u := by
  simp only [out] at hu
  split at hu
  case h_2 => cases hu
  rename_i ti ht
  split at hu
  case h_2 => cases hu
  rename_i fs hds
  simp only [Option.map_eq_some_iff] at hu
  obtain ⟨cs, hf, rfl⟩ := hu
  obtain ⟨i, z, ds, hty⟩ := hT.get ht
  have hok := hty.ok
  rw [hds] at hok
  obtain ⟨arr, hds2, hmap, _⟩ := hok
  obtain ⟨vr, hvr, hrel⟩ := fill_rel (fun i => (fs[i]?).map fun x => (x.1, x.2.2)) _ _ (ti.zero.map avOf) z.cells cs (parts_rel h parts.toList) (by rw [hty.zc]; exact zero_rel _) hf
  have hnu : cs.any AV.isU = false := hob
  have hone : ∀ u ∈ vr.toList, u.oneCell' = true := by
    intro u hu
    obtain ⟨q, hq⟩ := List.mem_iff_getElem?.1 hu
    have hql : q < cs.length := by rw [hrel.length]; exact (List.getElem?_eq_some_iff.1 hq).1
    obtain ⟨y, hy, hr⟩ := hrel.get q _ (List.getElem?_eq_getElem hql)
    rw [hq] at hy; cases hy
    refine RelC.one ?_ hr
    rw [List.any_eq_false] at hnu
    simpa using hnu _ (List.getElem_mem hql)
  refine OpOk.pure h (u := .agg vr) ?_ (show RelT w St s.M bl (.agg cs) (.agg vr) from ⟨vr.toList, by simp, hrel, hone⟩)
  have hb : P.built t (parts.map fun p => (p.1, a.eval p.2)).toList = some vr := by
    unfold Program.built
    rw [hty.info, hty.und, hds2]
    simp only [hty.zero, hmap, Array.toList_map]
    rw [← hvr]
    congr 1
    funext q
    simp
  have := run_build (P := P) w t (parts.map fun p => (p.1, a.eval p.2)) vr hb
  simp only [execOp, ho, Sem.run_bind, this]
  rfl
theorem field_ok {T : Tab} (hT : TyOk P T) (h : Sim1 cx s a w St bl) {o : Oper} {t f d : Nat} {x : Operand} (ho : o.op = .field t x f) {u : Out} (hu : out T s (.field t x f) d = some u) (hob : u.ob) : OpOk P cx s a w St bl o u := by
  simp only [out] at hu
  split at hu
  case h_2 => cases hu
  rename_i ti cs ht he
  split at hu
  case h_2 => cases hu
  rename_i fs hds
  split at hu
  case h_2 => cases hu
  rename_i off ut n hf
  split at hu
  case h_2 => cases hu
  rename_i tu htu
  simp only [Option.some.injEq] at hu; subst hu
  obtain ⟨hlen, hn, hnu⟩ := hob
  obtain ⟨i, z, ds, hty⟩ := hT.get ht
  obtain ⟨i', z', ds', htyu⟩ := hT.get htu
  obtain ⟨arr, fd, hu1, hfd, rfl, rfl, i2, hi2, hsz2⟩ := field_of hty hds hf
  have hx := eval_rel h x
  rw [he] at hx
  obtain ⟨vs, hv, hrel, _⟩ := (show RelT w St s.M bl (.agg cs) (a.eval x) from hx)
  have hsub := all2_take (all2_drop hrel fd.offset) n
  have hvl : ((vs.drop fd.offset).take n).length = n := by rw [← hsub.length]; exact hlen
  refine OpOk.pure h (u := if tu.ds.agg then .agg ((vs.drop fd.offset).take n).toArray else ((vs.drop fd.offset).take n).headD undef) ?_ (ofCells_rel hsub (fun ha => by rw [hlen, hn]; exact htyu.size1 ha) hnu)
  have hag := htyu.isAgg w
  have hsz := htyu.sizeOf w
  rw [← hn] at hsz
  cases hagg : tu.ds.agg with
  | true =>
    rw [hagg] at hag
    have : (vs.toArray.extract fd.offset (fd.offset + n)) = ((vs.drop fd.offset).take n).toArray := by
      simp [List.extract_toArray, List.extract_eq_take_drop]
    simp only [execOp, ho, hv]
    simp [Instr.field, run_underlying hu1, hfd, asAgg, part, hag, hsz, this]
  | false =>
    rw [hagg] at hag
    have h1 := htyu.size1 hagg
    cases hdr : (vs.drop fd.offset).take n with
    | nil => rw [hdr] at hvl; simp at hvl; omega
    | cons v rest =>
      have hv0 : vs[fd.offset]? = some v := by
        have h5 : ((vs.drop fd.offset).take n)[0]? = some v := by rw [hdr]; rfl
        rw [List.getElem?_take] at h5
        split at h5
        · rw [List.getElem?_drop] at h5; simpa using h5
        · cases h5
      simp only [execOp, ho, hv]
      simp [Instr.field, run_underlying hu1, hfd, asAgg, part, hag, hv0]
end
end Go.Pw

namespace Go.Pw
open Go
theorem chunks_get {α : Type} (sz : Nat) : ∀ (n : Nat) (ds : List α) (i : Nat), (chunks sz n ds)[i]? = if i < n then some ((ds.drop (i * sz)).take sz) else none
  | 0, ds, i => by simp [chunks]
  | n + 1, ds, i => by
    cases i with
    | zero => simp [chunks]
    | succ i =>
      simp only [chunks, List.getElem?_cons_succ, chunks_get sz n]
      by_cases h : i < n
      · rw [if_pos h, if_pos (by omega), List.drop_drop, Nat.add_mul, Nat.one_mul, Nat.add_comm sz]
      · rw [if_neg h, if_neg (by omega)]
theorem chunks_length {α : Type} (sz : Nat) : ∀ (n : Nat) (ds : List α), (chunks sz n ds).length = n
  | 0, _ => rfl
  | n + 1, ds => by simp [chunks, chunks_length sz n]
theorem row_of_cells {w : World} {St : Nat → Prop} {b : Nat} {c : Array Value} {e : TypeId} {fz : Nat × Nat} (hb : w.heap[b]? = some (.cells c e fz)) {ds : List D} {sz n : Nat} (o : Nat) {post pre : List Value} {vs : List Value} (hc : c.toList = pre ++ vs ++ post) (ho : pre.length = o) (hr : All2 (RelD w St) ds vs) (hl : ds.length = n * sz) :
    RelRow w St (chunks sz n ds) b o sz := by
  have key : ∀ i e, (chunks sz n ds)[i]? = some e → e = (ds.drop (i * sz)).take sz ∧ i < n := by
    intro i e he
    rw [chunks_get] at he
    split at he
    · cases he; exact ⟨rfl, ‹_›⟩
    · cases he
  refine ⟨fun e he => ?_, fun i e he j x hx => ?_⟩
  · obtain ⟨i, hi⟩ := List.mem_iff_getElem?.1 he
    obtain ⟨rfl, hlt⟩ := key i e hi
    have : (i + 1) * sz ≤ n * sz := Nat.mul_le_mul_right _ hlt
    rw [Nat.add_mul, Nat.one_mul] at this
    simp; omega
  · obtain ⟨rfl, hlt⟩ := key i e he
    rw [List.getElem?_take] at hx
    split at hx
    · rw [List.getElem?_drop] at hx
      obtain ⟨u, hu, hr2⟩ := hr.get _ x hx
      refine ⟨u, ?_, hr2⟩
      rw [cell_of_row w b _ c e fz hb, ← Array.getElem?_toList, hc, List.append_assoc, List.getElem?_append_right (by omega), ho, List.getElem?_append_left (by
        have := (List.getElem?_eq_some_iff.1 hu).1; omega)]
      rw [show o + (i * sz + j) - o = i * sz + j by omega]; exact hu
    · cases hx
theorem range_zero (z : Array Value) (sz : Nat) (hz : z.size = sz) : ∀ n : Nat, ((List.range (n * sz)).map fun q => z[q % z.size]!) = (List.replicate n z.toList).flatten
  | 0 => by simp
  | n + 1 => by
    rw [Nat.add_mul, Nat.one_mul, List.range_add, List.map_append, range_zero z sz hz n, List.replicate_succ', List.flatten_append]
    congr 1
    simp only [List.flatten_cons, List.flatten_nil, List.append_nil, List.map_map]
    apply List.ext_getElem?
    intro j
    simp only [List.getElem?_map, Function.comp]
    by_cases hj : j < sz
    · rw [List.getElem?_range hj]
      have h1 : (n * sz + j) % z.size = j := by rw [hz, Nat.mul_comm, Nat.mul_add_mod, Nat.mod_eq_of_lt hj]
      simp only [Option.map_some, Function.comp_apply, h1]
      rw [getElem!_pos z j (by omega)]
      simp [show j < z.size by omega]
    · rw [List.getElem?_eq_none (by simp; omega), List.getElem?_eq_none (by simp; omega)]
      rfl
section
variable {P : Program} {cx : Ctx} {s : S} {a : Act} {w : World} {St : Nat → Prop} {bl : Lc}
theorem row_obj {w' : World} {M' : Mm} {bl' : Lc} {k b n cap : Nat} {c : Array Value} {e : TypeId} {es : List (List D)} {sz : Nat} (hl : bl' k = ⟨some b, 0, sz, cap⟩) (hb : w'.heap[b]? = some (.cells c e (0, 0))) (hs : c.size = cap * sz) (hn : es.length = n) (hnc : n ≤ cap) (hm : cap ≤ maxLen)
    (hr : RelRow w' St es b 0 sz) : ObRel w' St M' bl' k (.row sz es) :=
  .inr ⟨b, c, e, by rw [hl], by rw [hl], hb, by rw [hl]; simp [hs], by rw [hl]; show es.length ≤ cap; omega, by rw [hl]; exact hm, by rw [hl]; exact hr⟩
theorem ref_new {w' : World} {M' : Mm} {bl' : Lc} {k b n sz cap : Nat} {es : List (List D)} (hM : M' k = some (.row sz es)) (hbl : bl' k = ⟨some b, 0, sz, cap⟩) (hn : es.length = n) : RelV w' St M' bl' (.ref k 0 n) (.slice (some ⟨b, 0, none⟩) n cap) :=
  RelV.of_c (x := .ref k 0 n) ⟨sz, es, _, hM, by omega, by rw [hbl]; rfl, fun _ => ⟨b, by rw [hbl], by rw [hbl]; simp⟩⟩
theorem buildSlice_ok {T : Tab} (hT : TyOk P T) (h : Sim1 cx s a w St bl) {o : Oper} {t d len : Nat} {parts : Array (Nat × Operand)} (ho : o.op = .buildSlice t len parts) (hd : d < 1000) {u : Out} (hu : out T s (.buildSlice t len parts) d = some u) (hob : u.ob) : OpOk P cx s a w St bl o u := by
  simp only [out] at hu
  split at hu
  case h_2 => cases hu
  rename_i ti ht
  split at hu
  case h_2 => cases hu
  rename_i e hds
  split at hu
  case h_2 => cases hu
  rename_i te hte
  split at hu
  case h_2 => cases hu
  rename_i cs hf
  split at hu
  case h_2 => cases hu
  rename_i ds Y hfz
  simp only [Option.some.injEq] at hu; subst hu
  obtain ⟨hk, hYr, h0, hbig, hdl⟩ := hob
  obtain ⟨i, z, dsc, hty⟩ := hT.get ht
  obtain ⟨i', z', dsc', hte'⟩ := hT.get hte
  have hsl := hty.sl hds
  have hzs : z'.cells.size = te.size := by have h1 := congrArg List.length hte'.zc; rw [hte'.zl] at h1; simpa using h1
  have hcells : ((Array.range (len * te.size)).map fun q => z'.cells[q % z'.cells.size]!).toList = (List.replicate len te.zero).flatten := by
    rw [Array.toList_map, Array.toList_range, range_zero z'.cells te.size hzs len, hte'.zc]
  obtain ⟨vr, hvr, hrel⟩ := fill_rel (fun i => some (i * te.size, te.size)) _ _ ((List.replicate len te.zero).flatten.map avOf) _ cs (parts_rel h parts.toList) (by rw [hcells]; exact zero_rel _) hf
  obtain ⟨St', hsub, hYst, mv1, mem1, frm1⟩ := h.freeze Y hYr
  have hds' := frz_rel (St' := St') h.mem hsub hfz (fun k' o b' hk' hm' hb' => hYst k' o b' hk' hm' hb') hrel
  have h1 : Sim1 cx ⟨fun t => scr Y (s.tm t), dropM Y s.M⟩ a w St' bl := h.step0 mv1 mem1 frm1
  have hk1 : dropM Y s.M d = none := by simp only [dropM, hk]; split <;> rfl
  have hvl : vr.size = len * te.size := by have := hds'.length; simp at this; omega
  have hlen : len ≤ 16777216 := Nat.le_trans (Nat.le_mul_of_pos_right len h0) hbig
  have hr : (execOp a.eval o).run P w = .ok (.value (.slice (some ⟨w.heap.size, 0, none⟩) len len)) (w.alloc (.cells vr e)) := by
    have hb2 : ¬ (16777216 < len * te.size) := by omega
    simp only [execOp, ho]
    by_cases hz : len * te.size = 0
    · have hl0 : len = 0 := by rcases Nat.mul_eq_zero.1 hz with h | h <;> omega
      subst hl0
      have h7 : (Array.range (0 * te.size)).map (fun q => z'.cells[q % z'.cells.size]!) = #[] := by simp [Array.range_zero']
      rw [h7] at hvr
      simp [Instr.buildSlice, run_underlying hsl, hte'.sizeOf, newRow, Array.range_zero', hvr]
    · simp only [Instr.buildSlice, Sem.run_bind, run_underlying hsl, Result.andThen_ok, hte'.sizeOf]
      simp [hb2, hz, hte'.zeroV, hvr, newRow]
  obtain ⟨mv2, mem2, frm2⟩ := h1.obj (k := d) (X := []) (ob' := .row te.size (chunks te.size len ds)) (l := ⟨some w.heap.size, 0, te.size, len⟩) (w' := w.alloc (.cells vr e))
    rfl rfl rfl (by simp) (fun b hb _ => fresh_alloc b hb) (fun b hb => by cases hb; exact .inl ⟨Nat.le_refl _, by simp⟩) (.inr (.inr hk1)) (fun p1 p2 => by omega)
    (fun M' bl' hM hbl mv => row_obj (by rw [hbl, upd_same]) (heap_alloc_new w _) hvl (chunks_length ..) (Nat.le_refl _) (by simp only [maxLen]; omega)
      (row_of_cells (heap_alloc_new w _) 0 (pre := []) (post := []) (vs := vr.toList) (by simp) rfl (all2_imp hds' fun _ _ hr => hr.mv mv.st) hdl))
  rw [scrM_nil_upd] at mv2 mem2 frm2
  exact ⟨_, _, _, St', _, hr, .inl rfl, mv1.trans mv2, mem2, frm2, ref_new (upd_same ..) (upd_same ..) (chunks_length ..)⟩
theorem mapM_all2 {w' : World} : ∀ {l : List Value} {r : List D}, l.mapM dOf = some r → All2 (RelD w' St) r l
  | [], r, h => by simp at h; subst h; exact .nil
  | x :: l, r, h => by
    simp only [List.mapM_cons, Option.bind_eq_bind, Option.pure_def, Option.bind_eq_some_iff] at h
    obtain ⟨b, hb, bs, hbs, hr⟩ := h
    cases hr
    exact .cons (dOf_rel hb) (mapM_all2 hbs)
theorem chunks_replicate {α : Type} (z : List α) : ∀ n : Nat, chunks z.length n (List.replicate n z).flatten = List.replicate n z
  | 0 => rfl
  | n + 1 => by
    simp only [List.replicate_succ, List.flatten_cons, chunks, List.take_left, List.drop_left, chunks_replicate z n]
theorem all2_replicate {α β : Type} {R : α → β → Prop} {xs : List α} {ys : List β} (h : All2 R xs ys) : ∀ n : Nat, All2 R (List.replicate n xs).flatten (List.replicate n ys).flatten
  | 0 => .nil
  | n + 1 => by simp only [List.replicate_succ, List.flatten_cons]; exact all2_append h (all2_replicate h n)
theorem makeSlice_ok {T : Tab} (hT : TyOk P T) (h : Sim1 cx s a w St bl) {o : Oper} {t d : Nat} {l c : Operand} (ho : o.op = .makeSlice t l c) (hd : d < 1000) {u : Out} (hu : out T s (.makeSlice t l c) d = some u) (hob : u.ob) : OpOk P cx s a w St bl o u := by
  simp only [out] at hu
  split at hu
  case h_2 => cases hu
  rename_i ti ht
  split at hu
  case h_2 => cases hu
  rename_i e hds
  split at hu
  case h_2 => cases hu
  rename_i te kl n kc m hte hl hc
  split at hu
  case h_2 => cases hu
  rename_i zs hzs
  simp only [Option.some.injEq] at hu; subst hu
  obtain ⟨hk, h0, hn, rfl, hby, hn2⟩ := hob
  obtain ⟨i, z, dsc, hty⟩ := hT.get ht
  obtain ⟨i', z', dsc', hte'⟩ := hT.get hte
  have hsl := hty.sl hds
  obtain ⟨el, _⟩ := eval_lit h hl
  obtain ⟨ec, _⟩ := eval_lit h hc
  have hb2 : (i'.bytes : Int) * m ≤ 281474976710656 := by rw [hte'.by_, Int.mul_comm]; omega
  have hrun := run_make (P := P) w t e i' z' hsl hte'.info hte'.zero kl kc m m hn (Int.le_refl _) hb2 (by omega)
  rw [hte'.sz] at hrun
  have hzsz : z'.cells.size = te.size := by have h1 := congrArg List.length hte'.zc; rw [hte'.zl] at h1; simpa using h1
  have hcells : (madeCells z'.cells (m.toNat * te.size)).toList = (List.replicate m.toNat te.zero).flatten := by
    unfold madeCells
    rw [Array.toList_map, Array.toList_range, range_zero z'.cells te.size hzsz m.toNat, hte'.zc]
  have hzl : zs.length = te.size := by rw [(mapM_all2 (w' := w) (St := St) hzs).length, hte'.zl]
  refine new_ok h (c := madeCells z'.cells (m.toNat * te.size)) (e := e) (l := ⟨some w.heap.size, 0, te.size, m.toNat⟩) (u := .slice (some ⟨w.heap.size, 0, none⟩) m.toNat m.toNat) ?_ hk rfl (fun h => by omega) ?_ ?_
  · simp only [execOp, ho, el, ec, Sem.run_bind, hrun]; rfl
  · intro w' M' bl' hw hM hbl mv
    subst hw
    have hrow := row_of_cells (St := St) (heap_alloc_new w (.cells (madeCells z'.cells (m.toNat * te.size)) e)) (ds := (List.replicate m.toNat zs).flatten) (sz := te.size) (n := m.toNat) 0 (pre := []) (post := []) (vs := (List.replicate m.toNat te.zero).flatten) (by simp [hcells]) rfl (all2_replicate (mapM_all2 hzs) _) (by simp [hzl])
    rw [← hzl, chunks_replicate, hzl] at hrow
    exact row_obj (by rw [hbl, upd_same]) (heap_alloc_new w _) (size_madeCells _ _) (by simp) (Nat.le_refl _) (by simp only [maxLen]; omega) hrow
  · intro w' M' bl' hM hbl
    exact ref_new hM hbl (by simp)
theorem makeFunc_ok {T : Tab} (h : Sim1 cx s a w St bl) {o : Oper} {f : Fn} {first caps : Array Operand} {d : Nat} (ho : o.op = .makeFunc f first caps) {u : Out} (hu : out T s (.makeFunc f first caps) d = some u) : OpOk P cx s a w St bl o u := by
  cases f with
  | func f =>
    simp only [out] at hu
    split at hu
    case isFalse => cases hu
    rename_i hfirst
    split at hu
    case h_2 => cases hu
    rename_i cs hcs
    simp only [Option.some.injEq] at hu; subst hu
    have hf0 : first = #[] := Array.eq_empty_of_size_eq_zero hfirst
    refine OpOk.pure h (u := .func (.func f) #[] (caps.map a.eval)) ?_ (RelV.of_c (x := .fn f cs) ⟨caps.toList.map a.eval, by simp [← Array.toList_map], ?_⟩)
    · simp only [execOp, ho, Instr.makeFunc, hf0]; simp
    · clear hf0
      generalize caps.toList = l at hcs
      clear ho
      induction l generalizing cs with
      | nil => simp at hcs; subst hcs; exact .nil
      | cons x l ih =>
        simp only [List.mapM_cons, Option.bind_eq_bind, Option.pure_def, Option.bind_eq_some_iff] at hcs
        obtain ⟨b, hb, bs, hbs, hr⟩ := hcs
        cases hr
        refine .cons ?_ (ih bs hbs)
        unfold capOf at hb
        split at hb
        · rename_i k i off he
          cases hb
          have := eval_rel h x
          rw [he] at this
          exact this
        · cases hb
  | _ => simp [out] at hu
theorem num8_row {w' : World} {St' : Nat → Prop} {es : List (List D)} {b o' sz : Nat} (h : RelRow w' St' es b o' sz) (hall : ∀ r ∈ es, r = [.lit (.int .u8 (num8 r))]) (hne : es ≠ []) : ∀ i, i < es.length → w'.cell? ⟨b, o' + i, none⟩ = some (.int .u8 ((es.map num8).getD i 0)) := by
  have hsz : sz = 1 := by
    cases es with
    | nil => exact absurd rfl hne
    | cons e es => rw [← h.1 e (by simp), hall e (by simp)]; rfl
  subst hsz
  intro i hi
  have hg := getD_some (d := []) hi
  obtain ⟨u, hu, hr⟩ := h.2 i _ hg 0 (.lit (.int .u8 (num8 (es.getD i [])))) (by rw [hall _ (List.mem_of_getElem? hg)]; rfl)
  cases hr with
  | lit _ _ =>
    simp only [Nat.mul_one, Nat.add_zero] at hu
    rw [hu]
    simp [List.getD_eq_getElem?_getD, List.getElem?_eq_getElem hi]
theorem convert_ok {T : Tab} (hT : TyOk P T) (h : Sim1 cx s a w St bl) {o : Oper} {src dst d : Nat} {x : Operand} (ho : o.op = .convert src dst x) {u : Out} (hu : out T s (.convert src dst x) d = some u) (hob : u.ob) : OpOk P cx s a w St bl o u := by
  simp only [out] at hu
  split at hu
  · rename_i ts td k n hts htd he
    split at hu
    case h_2 => cases hu
    rename_i k' hd
    simp only [Option.some.injEq] at hu; subst hu
    obtain ⟨_, _, _, hts'⟩ := hT.get hts
    obtain ⟨_, _, _, htd'⟩ := hT.get htd
    obtain ⟨ev, _⟩ := eval_lit h he
    have hint : P.underlying dst = some (.int k') := by have := htd'.ok; rw [hd] at this; rw [htd'.und]; exact congrArg some this
    have hcv : (convert src dst (.int k n)).run P w = .ok (.int k' (k'.wrap n)) w := by
      simp [convert, run_underlying hts'.und, run_underlying hint, Conv.intToInt]
    exact OpOk.pure h (by simp only [execOp, ho, ev, Sem.run_bind, hcv]; rfl) (relV_lit rfl)
  · rename_i ts td hts htd hne
    split at hu
    case h_2 => cases hu
    rename_i e es hd1 hd2 hes
    split at hu
    case h_2 => cases hu
    rename_i te hte
    split at hu
    case h_2 => cases hu
    rename_i hd3
    simp only [Option.some.injEq] at hu; subst hu
    obtain ⟨_, _, _, hts'⟩ := hT.get hts
    obtain ⟨_, _, _, htd'⟩ := hT.get htd
    obtain ⟨_, _, _, hte'⟩ := hT.get hte
    have hsl := hts'.sl hd1
    have hstr : P.underlying dst = some .string := by have := htd'.ok; rw [hd2] at this; rw [htd'.und]; exact congrArg some this
    have hu8 : P.underlying e = some (.int .u8) := by have := hte'.ok; rw [hd3] at this; rw [hte'.und]; exact congrArg some this
    obtain ⟨ad, cap, hv, hcap, hrow⟩ := elems_rel h (eval_rel h x) hes
    refine OpOk.pure h (u := .string (strOfNums (es.map num8))) ?_ (relV_lit rfl)
    by_cases hnil : es = []
    · subst hnil
      simp only [execOp, ho, hv, List.length_nil]
      cases ad with
      | none => simp only [Sem.run_bind, run_convert_bytes_nil (P := P) w src e hsl hu8 0 cap dst hstr]; rfl
      | some ad =>
        have : (convert src dst (.slice (some ad) 0 cap)).run P w = .ok (.string ByteArray.empty) w := by
          rw [run_convert_bytes_string w src dst e _ 0 cap hsl hu8 hstr]
          simp [Conv.bytesToString, loadCells, loadCellsFrom]
        simp only [Sem.run_bind, this]; rfl
    · obtain ⟨b, o', sz, rfl, hr⟩ := hrow hnil
      have := run_convert_bytes_arg (P := P) w src e hsl hu8 b o' es.length cap (es.map num8) (by simp) (num8_row hr hob hnil) dst hstr
      simp only [execOp, ho, hv, Sem.run_bind, this]; rfl
  · cases hu
end
end Go.Pw

namespace Go.Pw
open Go
section
variable {P : Program} {cx : Ctx} {s : S} {a : Act} {w : World} {St : Nat → Prop} {bl : Lc}
theorem bound_eval (h : Sim1 cx s a w St bl) {n : Int} {x : Option Operand} {m : Int} (hb : bound s n x = some m) : (x = none ∧ m = n) ∨ ∃ o k, x = some o ∧ a.eval o = .int k m := by
  cases x with
  | none => simp only [bound, Option.some.injEq] at hb; exact .inl ⟨rfl, hb.symm⟩
  | some o => obtain ⟨k, hk⟩ := intOf?_eval h hb; exact .inr ⟨o, k, rfl, hk⟩
theorem run_bounds (isS : Bool) (len cap : Nat) (lo hi : Option Value) (l h : Int) (hlo : (lo = none ∧ l = 0) ∨ ∃ k, lo = some (.int k l)) (hhi : (hi = none ∧ h = len) ∨ ∃ k, hi = some (.int k h)) (h0 : 0 ≤ l) (h1 : l ≤ h) (h2 : h ≤ len) (h3 : len ≤ cap) :
    (Instr.sliceBounds isS len cap lo hi none).run P w = .ok (l.toNat, h.toNat, cap) w := by
  have hb : ∀ (k : IntKind) (i : Int) (y : Nat) (code : BoundsCode), 0 ≤ i → i ≤ y → (Instr.sliceBound (.int k i) y code).run P w = .ok i.toNat w := fun k i y code => run_sliceBound w k i y code
  have hl' : l ≤ (h.toNat : Int) := by omega
  rcases hlo with ⟨rfl, rfl⟩ | ⟨kl, rfl⟩ <;> rcases hhi with ⟨rfl, rfl⟩ | ⟨kh, rfl⟩
  · simp [Instr.sliceBounds]
  · simp [Instr.sliceBounds, hb kh h cap _ (by omega) (by omega)]
  · simp [Instr.sliceBounds, hb kl l len _ h0 (by omega)]
  · simp [Instr.sliceBounds, hb kh h cap _ (by omega) (by omega), hb kl l h.toNat _ h0 hl']
theorem run_bounds3 (isS : Bool) (len cap : Nat) (lo hi mx : Option Value) (l h m : Int) (hlo : (lo = none ∧ l = 0) ∨ ∃ k, lo = some (.int k l)) (hhi : ∃ k, hi = some (.int k h)) (hmx : ∃ k, mx = some (.int k m)) (h0 : 0 ≤ l) (h1 : l ≤ h) (h2 : h ≤ m) (h3 : m ≤ cap) :
    (Instr.sliceBounds isS len cap lo hi mx).run P w = .ok (l.toNat, h.toNat, m.toNat) w := by
  have hb : ∀ (k : IntKind) (i : Int) (y : Nat) (code : BoundsCode), 0 ≤ i → i ≤ y → (Instr.sliceBound (.int k i) y code).run P w = .ok i.toNat w := fun k i y code => run_sliceBound w k i y code
  obtain ⟨kh, rfl⟩ := hhi
  obtain ⟨km, rfl⟩ := hmx
  have e1 : h ≤ (m.toNat : Int) := by omega
  have e2 : l ≤ (h.toNat : Int) := by omega
  rcases hlo with ⟨rfl, rfl⟩ | ⟨kl, rfl⟩
  · simp [Instr.sliceBounds, hb km m cap _ (by omega) (by omega), hb kh h m.toNat _ (by omega) e1]
  · simp [Instr.sliceBounds, hb km m cap _ (by omega) (by omega), hb kh h m.toNat _ (by omega) e1, hb kl l h.toNat _ h0 e2]
theorem run_sliced {t e : Nat} (hsl : P.underlying t = some (.slice e)) {te : TI} {ie : TypeInfo} {ze : Value} {dse : TypeDesc} (hty : TyF P e te ie ze dse) (ad : Option Addr) (len cap : Nat) (lo hi mx : Option Value) (l h m : Nat)
    (hb : (Instr.sliceBounds true len cap lo hi mx).run P w = .ok (l, h, m) w) :
    (Instr.sliceAt t (.slice ad len cap) lo hi mx).run P w = .ok (.slice (if m = l then ad else ad.map (·.add (l * te.size))) (h - l) (m - l)) w := by
  simp [Instr.sliceAt, run_underlying hsl, Instr.slice, hb, hty.sizeOf]
theorem row_sub {es : List (List D)} {b o sz l n : Nat} (h : RelRow w St es b o sz) : RelRow w St ((es.drop l).take n) b (o + l * sz) sz := by
  refine ⟨fun e he => h.1 e (List.mem_of_mem_drop (List.mem_of_mem_take he)), fun i e he j x hx => ?_⟩
  have he2 : es[l + i]? = some e := by
    rw [List.getElem?_take] at he
    split at he
    · rwa [List.getElem?_drop] at he
    · cases he
  obtain ⟨u, hu, hr⟩ := h.2 _ e he2 j x hx
  refine ⟨u, ?_, hr⟩
  have : o + l * sz + (i * sz + j) = o + ((l + i) * sz + j) := by rw [Nat.add_mul]; omega
  rw [this]; exact hu
theorem sl_sub {Q : Nat → Prop} {es : List (List D)} {ad : Option Addr} {cap l h m sz : Nat} (hs : RelSl w St Q es (.slice ad es.length cap)) (h1 : l ≤ h) (h2 : h ≤ es.length) (hm1 : h ≤ m) (hm2 : m ≤ cap) (hsz : ∀ e ∈ es, e.length = sz) :
    RelSl w St Q ((es.drop l).take (h - l)) (.slice (if m = l then ad else ad.map (·.add (l * sz))) (h - l) (m - l)) := by
  obtain ⟨ad', cap', he, g1, g2, g3⟩ := hs
  simp only [Value.slice.injEq] at he
  obtain ⟨rfl, -, rfl⟩ := he
  have hlen : ((es.drop l).take (h - l)).length = h - l := by simp; omega
  refine ⟨_, _, by rw [hlen], by rw [hlen]; omega, by omega, fun hne => ?_⟩
  have hpos : 0 < ((es.drop l).take (h - l)).length := List.length_pos_iff.2 hne
  obtain ⟨b, o, sz', rfl, hq, hr⟩ := g3 (by rintro rfl; simp at hpos)
  have hsz' : sz' = sz := by
    cases es with
    | nil => simp at hpos
    | cons e es => rw [← hr.1 e (by simp), hsz e (by simp)]
  subst hsz'
  refine ⟨b, o + l * sz', sz', ?_, hq, row_sub hr⟩
  rw [if_neg (by omega)]
  simp only [Option.map_some, Option.some.injEq]
  unfold Addr.add
  split
  · rename_i h0; rw [h0]; rfl
  · rfl
theorem slice_ok {T : Tab} (hT : TyOk P T) (h : Sim1 cx s a w St bl) {o : Oper} {t : Nat} {x : Operand} {lo hi mx : Option Operand} (ho : o.op = .slice t x lo hi mx) {u : Out} (hu : sliceO s T t (eval s x) lo hi mx = some u) (hob : u.ob) : OpOk P cx s a w St bl o u := by
  have hx := eval_rel h x
  have hex : ∀ v, a.eval x = v → execOp a.eval o = (do pure (.value (← Instr.sliceAt t v (lo.map a.eval) (hi.map a.eval) (mx.map a.eval)))) := by
    intro v hv; simp only [execOp, ho, hv]
  have bd : ∀ {n : Int} {y : Option Operand} {m : Int}, bound s n y = some m → (y.map a.eval = none ∧ m = n) ∨ ∃ k, y.map a.eval = some (.int k m) := by
    intro n y m hb
    rcases bound_eval h hb with ⟨rfl, rfl⟩ | ⟨o, k, rfl, e⟩
    · exact .inl ⟨rfl, rfl⟩
    · exact .inr ⟨k, by simp [e]⟩
  unfold sliceO at hu
  split at hu
  · rename_i bs he
    obtain ⟨ev, _⟩ := eval_lit h he
    split at hu
    case h_2 => cases hu
    rename_i ti l hh ht hl hhi
    split at hu
    case h_2 => cases hu
    rename_i hds
    simp only [Option.some.injEq] at hu; subst hu
    obtain ⟨h0, h1, h2⟩ := hob
    obtain ⟨_, _, _, hty⟩ := hT.get ht
    have hstr : P.underlying t = some .string := by have := hty.ok; rw [hds] at this; rw [hty.und]; exact congrArg some this
    have hb := run_bounds (P := P) (w := w) false bs.size bs.size _ _ l hh (bd hl) (bd hhi) h0 h1 h2 (Nat.le_refl _)
    refine OpOk.pure h ?_ (relV_lit rfl)
    rw [hex _ ev]
    simp [Instr.sliceAt, run_underlying hstr, Instr.slice, hb]
  · rename_i es he
    split at hu
    case h_2 => cases hu
    rename_i ti ht
    split at hu
    case h_2 => cases hu
    rename_i e hds
    split at hu
    case h_2 => cases hu
    rename_i te l hh hte hl hhi
    obtain ⟨_, _, _, hty⟩ := hT.get ht
    obtain ⟨_, _, _, hte'⟩ := hT.get hte
    have hsl := hty.sl hds
    rw [he] at hx
    have hx' := hx
    rw [show RelV w St s.M bl (.d (.sl es)) (a.eval x) = RelD w St (.sl es) (a.eval x) from rfl, RelD.sl_iff] at hx'
    obtain ⟨ad, cap, hv, g1, g2, g3⟩ := hx'
    have hs : RelSl w St St es (.slice ad es.length cap) := by rw [← hv, ← RelD.sl_iff]; exact hx
    split at hu
    · simp only [Option.some.injEq] at hu; subst hu
      obtain ⟨h0, h1, h2, h4⟩ := hob
      have hb := run_bounds (P := P) (w := w) true es.length cap _ _ l hh (bd hl) (bd hhi) h0 h1 h2 g1
      refine OpOk.pure h (u := .slice (if cap = l.toNat then ad else ad.map (·.add (l.toNat * te.size))) (hh.toNat - l.toNat) (cap - l.toNat)) ?_ ?_
      · rw [hex _ hv, Sem.run_bind, Option.map_none, run_sliced hsl hte' ad es.length cap _ _ _ _ _ _ hb]; rfl
      · show RelD w St _ _
        rw [RelD.sl_iff]
        exact sl_sub hs (by omega) (by omega) (by omega) (Nat.le_refl _) h4
    · rename_i m
      split at hu
      case h_2 => cases hu
      rename_i m' hio hm
      simp only [Option.some.injEq] at hu; subst hu
      obtain ⟨h0, h1, h2, rfl, h4⟩ := hob
      obtain ⟨km, em⟩ := intOf?_eval h hm
      · rcases bd hhi with ⟨e1, _⟩ | ⟨kh, eh⟩
        · cases e1
        · have hb := run_bounds3 (P := P) (w := w) true es.length cap _ _ (Option.map a.eval (some m)) l m' m' (bd hl) ⟨kh, eh⟩ ⟨km, by rw [Option.map_some, em]⟩ h0 h1 (Int.le_refl _) (by omega)
          refine OpOk.pure h (u := .slice (if m'.toNat = l.toNat then ad else ad.map (·.add (l.toNat * te.size))) (m'.toNat - l.toNat) (m'.toNat - l.toNat)) ?_ ?_
          · rw [hex _ hv, Sem.run_bind, run_sliced hsl hte' ad es.length cap _ _ _ _ _ _ hb]; rfl
          · have hlen : ((es.drop l.toNat).take (m'.toNat - l.toNat)).length = m'.toNat - l.toNat := by simp; omega
            refine ⟨?_, _, by rw [hlen]⟩
            rw [RelD.sl_iff]
            exact sl_sub hs (by omega) (by omega) (Nat.le_refl _) (by omega) h4
  · rename_i es he
    split at hu
    case h_2 => cases hu
    rename_i ti ht
    split at hu
    case h_2 => cases hu
    rename_i e hds
    split at hu
    case h_2 => cases hu
    rename_i te l hh hte hl hhi
    obtain ⟨_, _, _, hty⟩ := hT.get ht
    obtain ⟨_, _, _, hte'⟩ := hT.get hte
    have hsl := hty.sl hds
    rw [he] at hx
    obtain ⟨ad, cap, hv, g1, g2, g3⟩ := (show RelSl w St (fun b => Free s.M bl b ∧ b < w.heap.size) es (a.eval x) from hx)
    have hs : RelSl w St (fun b => Free s.M bl b ∧ b < w.heap.size) es (.slice ad es.length cap) := ⟨ad, cap, rfl, g1, g2, g3⟩
    split at hu
    · simp only [Option.some.injEq] at hu; subst hu
      obtain ⟨h0, h1, h2, h4⟩ := hob
      have hb := run_bounds (P := P) (w := w) true es.length cap _ _ l hh (bd hl) (bd hhi) h0 h1 h2 g1
      refine OpOk.pure h (u := .slice (if cap = l.toNat then ad else ad.map (·.add (l.toNat * te.size))) (hh.toNat - l.toNat) (cap - l.toNat)) ?_ ?_
      · rw [hex _ hv, Sem.run_bind, Option.map_none, run_sliced hsl hte' ad es.length cap _ _ _ _ _ _ hb]; rfl
      · exact sl_sub hs (by omega) (by omega) (by omega) (Nat.le_refl _) h4
    · cases hu
  · rename_i k lo0 len he
    split at hu
    case h_2 => cases hu
    rename_i ti ht
    split at hu
    case h_2 => cases hu
    rename_i e hds
    split at hu
    case h_2 => cases hu
    rename_i te l hh sz es hte hl hhi hm
    split at hu
    case h_2 => cases hu
    simp only [Option.some.injEq] at hu; subst hu
    obtain ⟨h0, h1, h2, h4⟩ := hob
    obtain ⟨_, _, _, hty⟩ := hT.get ht
    obtain ⟨_, _, _, hte'⟩ := hT.get hte
    have hsl := hty.sl hds
    rw [he] at hx
    obtain ⟨sz', es2, ad, hm', hle, hv, hfr⟩ := (show RelC w St s.M bl (.ref k lo0 len) (a.eval x) from hx)
    rw [hm] at hm'; cases hm'
    have hcap : len ≤ (bl k).cap - lo0 := by
      rcases h.mem.ob k _ hm with ⟨g1, g2, g3⟩ | ⟨b, c, e', g0, g1, g2, g3, g4, g5, g6⟩
      · subst g2; simp at hle; omega
      · omega
    have hb := run_bounds (P := P) (w := w) true len ((bl k).cap - lo0) _ _ l hh (bd hl) (bd hhi) h0 h1 h2 hcap
    refine OpOk.pure h (u := .slice (if (bl k).cap - lo0 = l.toNat then ad else ad.map (·.add (l.toNat * te.size))) (hh.toNat - l.toNat) ((bl k).cap - lo0 - l.toNat)) ?_ ?_
    · rw [hex _ hv, Sem.run_bind, Option.map_none, run_sliced hsl hte' ad len _ _ _ _ _ _ _ hb]; rfl
    · refine RelV.of_c (x := .ref ..) ⟨sz, es, _, hm, by omega, by rw [show (bl k).cap - lo0 - l.toNat = (bl k).cap - (lo0 + l.toNat) by omega], fun hlt => ?_⟩
      obtain ⟨b, hb1, rfl⟩ := hfr (by omega)
      refine ⟨b, hb1, ?_⟩
      rw [if_neg (by omega)]
      have hsz : (bl k).sz = te.size := by
        rcases h.mem.ob k _ hm with ⟨g1, g2, g3⟩ | ⟨b, c, e', g0, g1, g2, g3, g4, g5, g6⟩
        · omega
        · rw [g0, h4]
      simp only [Option.map_some, Option.some.injEq]
      unfold Addr.add
      split
      · rename_i h0; rw [hsz, Nat.add_mul, h0]; rfl
      · simp only [Addr.mk.injEq, true_and, and_true]
        rw [hsz, Nat.add_mul]; omega
  · cases hu
end
end Go.Pw

namespace Go.Pw
open Go
section
variable {P : Program} {cx : Ctx} {s : S} {a : Act} {w : World} {St : Nat → Prop} {bl : Lc}
theorem relT_lit {w : World} {M : Mm} {bl : Lc} {v : Value} (h : scal v = true) : RelT w St M bl (.d (.lit v)) v := RelD.lit v h
theorem raw_obj {w' : World} {M' : Mm} {bl' : Lc} {k b : Nat} {x : Obj} (hl : bl' k = ⟨some b, 0, 0, 0⟩) (hb : w'.heap[b]? = some x) : ObRel w' St M' bl' k (.raw x) := ⟨b, by rw [hl], by rw [hl], hb⟩
theorem newRaw_ok (h : Sim1 cx s a w St bl) {o : Oper} {k : Nat} {x : Obj} {R : List Nat} {v : AV} {u : Value} {ob : Prop}
    (hr : (execOp a.eval o).run P w = .ok (.value u) (w.alloc x)) (hk : s.M k = none) (hd : k < 1000)
    (hv : ∀ (M' : Mm) (bl' : Lc), M' k = some (.raw x) → bl' k = ⟨some w.heap.size, 0, 0, 0⟩ → RelV (w.alloc x) St M' bl' v u) :
    OpOk P cx s a w St bl o ⟨v, [], upd s.M k (some (.raw x)), [k], R, ob⟩ := by
  have := OpOk.obj (P := P) (X := []) (W := [k]) (R := R) (ob := ob) h hr (.inl rfl) rfl rfl rfl (by simp) (fun b hb _ => fresh_alloc b hb) (l := ⟨some w.heap.size, 0, 0, 0⟩) (k := k) (ob' := .raw x) (v := v)
    (fun b hb => by cases hb; exact .inl ⟨Nat.le_refl _, by simp⟩) (.inr (.inr hk)) (fun h1 h2 => by omega)
    (fun M' bl' hM hbl mv => raw_obj (by rw [hbl, upd_same]) (heap_alloc_new w _)) (fun M' bl' hm hb => hv M' bl' hm hb)
  rwa [scrM_nil_upd] at this
theorem putRaw_ok (h : Sim1 cx s a w St bl) {o : Oper} {k b : Nat} {x y : Obj} {R : List Nat} {v : AV} {u : Value} {ob : Prop} {nx : Next} (hm : s.M k = some (.raw x)) (hb : (bl k).b = some b)
    (hr : (execOp a.eval o).run P w = .ok nx { w with heap := w.heap.setIfInBounds b y }) (hnx : nx = .value u ∨ nx = .skip ∧ u = undef)
    (hv : ∀ (w' : World) (M' : Mm) (bl' : Lc), RelV w' St M' bl' v u) :
    OpOk P cx s a w St bl o ⟨v, [], upd s.M k (some (.raw y)), [k], R, ob⟩ := by
  obtain ⟨b', h1, h2, h3⟩ := h.mem.ob k _ hm
  rw [hb] at h1; cases h1
  have hlt := h.mem.blt hm hb
  have := OpOk.obj (P := P) (X := []) (W := [k]) (R := R) (ob := ob) h hr hnx rfl rfl rfl (by simp) (fun b' _ hne => by
      have : b' ≠ b := by rintro rfl; exact hne _ hm hb
      exact Array.getElem?_setIfInBounds_ne (Ne.symm this)) (l := bl k) (k := k) (ob' := .raw y) (v := v)
    (fun b' hb' => .inr ⟨_, hm, hb'⟩) (.inr (.inl ⟨rfl, fun o2 ho2 => by rw [hm] at ho2; cases ho2; trivial⟩)) (fun _ _ => ⟨rfl, _, hm⟩)
    (fun M' bl' hM hbl mv => ⟨b, by rw [hbl, upd_same]; exact hb, by rw [hbl, upd_same]; exact h2, Array.getElem?_setIfInBounds_self_of_lt hlt⟩) (fun M' bl' _ _ => hv _ M' bl')
  rwa [scrM_nil_upd] at this
theorem range_ok {T : Tab} (hT : TyOk P T) (h : Sim1 cx s a w St bl) {o : Oper} {t d : Nat} {x : Operand} (ho : o.op = .range t x) (hd : d < 1000) {u : Out} (hu : out T s (.range t x) d = some u) (hob : u.ob) : OpOk P cx s a w St bl o u := by
  simp only [out] at hu
  split at hu
  case h_2 => cases hu
  rename_i ti b ht he
  split at hu
  case h_2 => cases hu
  rename_i hds
  simp only [Option.some.injEq] at hu; subst hu
  obtain ⟨i, z, ds, hty⟩ := hT.get ht
  have hst : P.underlying t = some .string := by
    have := hty.ok; rw [hds] at this; rw [hty.und]; exact congrArg some this
  obtain ⟨ex, _⟩ := eval_lit h he
  refine newRaw_ok h (u := .pointer (some ⟨w.heap.size, 0, none⟩)) ?_ hob hd (fun M' bl' hm hb => ptr_new hm hb)
  simp only [execOp, ho, ex]
  simp only [Instr.range, Sem.run_bind, run_underlying hst, Result.andThen_ok, Sem.run_pure, run_newObj_alloc]
theorem next_ok {T : Tab} (h : Sim1 cx s a w St bl) {o : Oper} {d : Nat} {x : Operand} {st : Bool} (ho : o.op = .next x st) {u : Out} (hu : out T s (.next x st) d = some u) : OpOk P cx s a w St bl o u := by
  cases st with
  | false => simp [out] at hu
  | true =>
  simp only [out] at hu
  split at hu
  case h_2 => cases hu
  rename_i k he
  split at hu
  case h_2 => cases hu
  rename_i b pos hm
  have hx := eval_rel h x
  rw [he] at hx
  obtain ⟨bb, o', hm', hb, hv⟩ := (show RelP s.M bl k 0 0 (a.eval x) from hx)
  obtain ⟨b', g1, g2, g3⟩ := h.mem.ob k _ hm
  rw [hb] at g1; cases g1
  rw [g2] at hv
  simp only [Nat.zero_mul, Nat.add_zero] at hv
  have hg : (getObj bb).run P w = .ok (.stringIter b pos) w := by simp [getObj, Sem.run, g3]
  split at hu
  · rename_i hlt
    simp only [Option.some.injEq] at hu; subst hu
    have hs : (setObj bb (.stringIter b (pos + (Utf8.decode b pos).2))).run P w = .ok () { w with heap := w.heap.setIfInBounds bb (.stringIter b (pos + (Utf8.decode b pos).2)) } := by simp [setObj, Sem.run, g3]
    refine putRaw_ok h (u := .tuple #[.bool true, goInt pos, .int .i32 (Utf8.decode b pos).1]) hm hb ?_ (.inl rfl) (fun w' M' bl' => ?_)
    · simp only [execOp, ho, hv]
      simp [Instr.next, Sem.run_bind, hg, hlt, hs]
    · exact ⟨[_, _, _], rfl, .cons (relT_lit rfl) (.cons (relT_lit rfl) (.cons (relT_lit rfl) .nil))⟩
  · rename_i hlt
    simp only [Option.some.injEq] at hu; subst hu
    refine OpOk.pure h (u := .tuple #[.bool false]) ?_ ⟨[_], rfl, .cons (relT_lit rfl) .nil⟩
    simp only [execOp, ho, hv]
    simp [Instr.next, Sem.run_bind, hg, hlt]
theorem makeMap_ok {T : Tab} (h : Sim1 cx s a w St bl) {o : Oper} {t d : Nat} {r : Option Operand} (ho : o.op = .makeMap t r) (hd : d < 1000) {u : Out} (hu : out T s (.makeMap t r) d = some u) (hob : u.ob) : OpOk P cx s a w St bl o u := by
  cases r with
  | some r => simp [out] at hu
  | none =>
  simp only [out, Option.some.injEq] at hu; subst hu
  refine newRaw_ok h (u := .map (some w.heap.size)) ?_ hob hd (fun M' bl' hm hb => ⟨w.heap.size, _, hm, by rw [hb], rfl⟩)
  simp only [execOp, ho]
  simp [Instr.makeMap, Sem.run_bind, run_newObj_alloc]
theorem keyDesc_ok {P : Program} {ds : Ds} {td d : TypeDesc} (hk : keyDesc ds = some td) (ho : ds.ok P d) : d = td := by
  cases ds <;> simp [keyDesc] at hk <;> subst hk <;> exact ho
theorem checkKey_run {ds : Ds} {td : TypeDesc} {t : Nat} (hk : keyDesc ds = some td) (ht : P.underlying t = some td) (e : Bool) (v : Value) : (Instr.checkKey e 10000 t v).run P w = .ok () w := by
  rw [show (10000 : Nat) = 9999 + 1 from rfl, Instr.checkKey]
  simp only [Sem.run_bind, run_underlying ht, Result.andThen_ok]
  cases ds <;> simp [keyDesc] at hk <;> subst hk <;> rfl
theorem findKey_run {td : TypeDesc} {t : Nat} (ht : P.underlying t = some td) {kv : Value} {es : List MapEntry} {r : Option (Nat × Value)} (hf : Instr.findNow td kv es 0 = some r) : (Instr.findKey t kv es).run P w = .ok r w := by
  simp [Instr.findKey, Sem.run_bind, run_underlying ht, hf]
theorem map_und {T : Tab} (hT : TyOk P T) {t k e : Nat} {ti : TI} (ht : T t = some ti) (hd : ti.ds = .mp k e) : P.underlying t = some (.map k e) := by
  obtain ⟨i, z, ds, hty⟩ := hT.get ht
  have := hty.ok; rw [hd] at this; rw [hty.und]; exact congrArg some this
theorem mapUpdate_ok {T : Tab} (hT : TyOk P T) (h : Sim1 cx s a w St bl) {o : Oper} {t d : Nat} {m k v : Operand} (ho : o.op = .mapUpdate t m k v) {u : Out} (hu : out T s (.mapUpdate t m k v) d = some u) : OpOk P cx s a w St bl o u := by
  simp only [out] at hu
  split at hu
  case h_2 => cases hu
  rename_i ti kk kv vv ht hm hk hv
  split at hu
  case h_2 => cases hu
  rename_i kt et hds
  split at hu
  case h_2 => cases hu
  rename_i tk es clock htk hM
  split at hu
  case h_2 => cases hu
  rename_i td hkd
  split at hu
  case h_2 => cases hu
  rename_i es' c' hp
  simp only [Option.some.injEq] at hu; subst hu
  obtain ⟨ek, _⟩ := eval_lit h hk
  obtain ⟨ev, _⟩ := eval_lit h hv
  have hx := eval_rel h m
  rw [hm] at hx
  obtain ⟨b, o', hM', hb, em⟩ := (show RelC w St s.M bl (.mp kk) (a.eval m) from hx)
  obtain ⟨b', g1, g2, g3⟩ := h.mem.ob kk _ hM
  rw [hb] at g1; cases g1
  have hu1 := map_und hT ht hds
  obtain ⟨i, z, ds, hty⟩ := hT.get htk
  have hkt : P.underlying kt = some td := by rw [hty.und, keyDesc_ok hkd hty.ok]
  have hg : (getObj b).run P w = .ok (.map es clock) w := by simp [getObj, Sem.run, g3]
  have hs : ∀ y, (setObj b y).run P w = .ok () { w with heap := w.heap.setIfInBounds b y } := fun y => by simp [setObj, Sem.run, g3]
  refine putRaw_ok h (u := undef) (nx := .skip) hM hb ?_ (.inr ⟨rfl, rfl⟩) (fun _ _ _ => trivial)
  simp only [execOp, ho, em, ek, ev]
  unfold mapPut at hp
  split at hp
  · rename_i i v hf
    split at hp
    · rename_i hsb
      simp only [Option.some.injEq, Prod.mk.injEq] at hp; obtain ⟨rfl, rfl⟩ := hp
      have hfk := findKey_run (P := P) (w := w) hkt hf
      simp [Instr.mapUpdate, Sem.run_bind, run_underlying hu1, hg, checkKey_run hkd hkt, hfk, Instr.keyThatStays, hsb, hs]
    · cases hp
  · rename_i hf
    simp only [Option.some.injEq, Prod.mk.injEq] at hp; obtain ⟨rfl, rfl⟩ := hp
    have hfk := findKey_run (P := P) (w := w) hkt hf
    simp [Instr.mapUpdate, Sem.run_bind, run_underlying hu1, hg, checkKey_run hkd hkt, hfk, hs]
  · cases hp
theorem lookup_ok {T : Tab} (hT : TyOk P T) (h : Sim1 cx s a w St bl) {o : Oper} {t d : Nat} {m k : Operand} {ok : Bool} (ho : o.op = .lookup t m k ok) {u : Out} (hu : out T s (.lookup t m k ok) d = some u) (hob : u.ob) : OpOk P cx s a w St bl o u := by
  simp only [out] at hu
  split at hu
  case h_2 => cases hu
  rename_i ti kk kv ht hm hk
  split at hu
  case h_2 => cases hu
  rename_i kt et hds
  split at hu
  case h_2 => cases hu
  rename_i tk te es clock htk hte hM
  split at hu
  case h_2 => cases hu
  rename_i td z0 hkd hz
  split at hu
  case h_2 => cases hu
  rename_i v b hp
  simp only [Option.some.injEq] at hu; subst hu
  obtain ⟨hag, hsc⟩ := hob
  obtain ⟨ek, _⟩ := eval_lit h hk
  have hx := eval_rel h m
  rw [hm] at hx
  obtain ⟨bb, o', hM', hb, em⟩ := (show RelC w St s.M bl (.mp kk) (a.eval m) from hx)
  obtain ⟨b', g1, g2, g3⟩ := h.mem.ob kk _ hM
  rw [hb] at g1; cases g1
  have hu1 := map_und hT ht hds
  obtain ⟨i, z, ds, hty⟩ := hT.get htk
  have hkt : P.underlying kt = some td := by rw [hty.und, keyDesc_ok hkd hty.ok]
  obtain ⟨i2, z2, ds2, hte2⟩ := hT.get hte
  have hzv : z2 = z0 := by
    have := hte2.agg
    rw [hag] at this
    simp only [Bool.false_eq_true, if_false] at this
    obtain ⟨z3, rfl, h3, _⟩ := this
    rw [hz] at h3; simpa using h3.symm
  subst hzv
  have hzr := fun w' => hte2.zeroV w'
  have hg : (getObj bb).run P w = .ok (.map es clock) w := by simp [getObj, Sem.run, g3]
  have hrun : (Instr.lookup t (.map (some bb)) kv ok).run P w = .ok (if ok then .tuple #[v, .bool b] else v) w := by
    unfold mapGet at hp
    split at hp
    · rename_i i v' hf
      simp only [Option.some.injEq, Prod.mk.injEq] at hp; obtain ⟨rfl, rfl⟩ := hp
      have hfk := findKey_run (P := P) (w := w) hkt hf
      simp [Instr.lookup, Sem.run_bind, run_underlying hu1, hg, checkKey_run hkd hkt, hfk]
    · rename_i hf
      simp only [Option.some.injEq, Prod.mk.injEq] at hp; obtain ⟨rfl, rfl⟩ := hp
      have hfk := findKey_run (P := P) (w := w) hkt hf
      simp [Instr.lookup, Sem.run_bind, run_underlying hu1, hg, checkKey_run hkd hkt, hfk, hzr]
    · cases hp
  refine OpOk.pure h (u := if ok then .tuple #[v, .bool b] else v) ?_ ?_
  · simp only [execOp, ho, em, ek, Sem.run_bind, hrun]; rfl
  · cases ok
    · exact relV_lit hsc
    · exact ⟨[_, _], rfl, .cons (relT_lit hsc) (.cons (relT_lit rfl) .nil)⟩
end
end Go.Pw

namespace Go.Pw
open Go
theorem chunks_flatten {α : Type} (sz : Nat) : ∀ (es : List (List α)), (∀ e ∈ es, e.length = sz) → chunks sz es.length es.flatten = es
  | [], _ => rfl
  | e :: es, h => by
    have he := h e (by simp)
    simp only [List.length_cons, chunks, List.flatten_cons]
    rw [← he, List.take_left, List.drop_left, he, chunks_flatten sz es fun x hx => h x (by simp [hx])]
theorem flatten_length {α : Type} (sz : Nat) : ∀ (es : List (List α)), (∀ e ∈ es, e.length = sz) → es.flatten.length = es.length * sz
  | [], _ => by simp
  | e :: es, h => by
    simp only [List.flatten_cons, List.length_append, List.length_cons, flatten_length sz es fun x hx => h x (by simp [hx]), h e (by simp), Nat.add_mul, Nat.one_mul]
    omega
section
variable {P : Program} {cx : Ctx} {s : S} {a : Act} {w : World} {St : Nat → Prop} {bl : Lc}
theorem flat_cells {b sz : Nat} : ∀ {es : List (List D)} {o : Nat}, RelRow w St es b o sz → ∃ vs : List Value, (∀ j v, vs[j]? = some v → w.cell? ⟨b, o + j, none⟩ = some v) ∧ All2 (RelD w St) es.flatten vs
  | [], o, _ => ⟨[], by simp, .nil⟩
  | e :: es, o, h => by
    obtain ⟨vs, h1, h2⟩ := row_get h (i := 0) (e := e) rfl
    obtain ⟨ws, h3, h4⟩ := flat_cells (es := es) (o := o + sz) ⟨fun x hx => h.1 x (by simp [hx]), fun i x hx j y hy => by
      obtain ⟨u, hu, hr⟩ := h.2 (i + 1) x (by simpa using hx) j y hy
      refine ⟨u, ?_, hr⟩
      rw [Nat.add_mul, Nat.one_mul] at hu
      rw [show o + sz + (i * sz + j) = o + (i * sz + sz + j) by omega]; exact hu⟩
    refine ⟨vs ++ ws, fun j v hv => ?_, by rw [List.flatten_cons]; exact all2_append h1 h4⟩
    have hl : vs.length = sz := by rw [← h1.length]; exact h.1 e (by simp)
    by_cases hj : j < vs.length
    · rw [List.getElem?_append_left hj] at hv
      simpa using h2 j v hv
    · rw [List.getElem?_append_right (by omega)] at hv
      have := h3 _ v hv
      rw [show o + sz + (j - vs.length) = o + j by omega] at this
      exact this
theorem all2_one {xs : List D} {vs : List Value} (h : All2 (RelD w St) xs vs) : ∀ u ∈ vs, u.oneCell' = true := by
  induction h with
  | nil => simp
  | cons hr _ ih =>
    intro u hu
    rcases List.mem_cons.1 hu with rfl | hu
    · exact hr.one
    · exact ih u hu
theorem plain_add (b o j : Nat) : (⟨b, o, none⟩ : Addr).add j = ⟨b, o + j, none⟩ := by unfold Addr.add; split <;> simp_all
theorem append_grow {t e ty : Nat} (hsl : P.underlying t = some (.slice e)) {te : TI} {ie : TypeInfo} {ze : Value} {dse : TypeDesc} (hty : TyF P e te ie ze dse) (adx : Option Addr) (n0 c0 : Nat) (olds : List Value) (hlo : olds.length = n0 * te.size)
    (hnone : adx = none → n0 = 0 ∧ c0 = 0) (hold : ∀ ad, adx = some ad → ∀ j v, olds[j]? = some v → w.cell? (ad.add j) = some v)
    (b o : Nat) (n c : Nat) (news : List Value) (hl : news.length = n * te.size) (hnews : ∀ j v, news[j]? = some v → w.cell? ⟨b, o + j, none⟩ = some v)
    (hg : c0 < n0 + n) (h63 : n0 + n ≤ 140737488355328) (hby : (n0 + n) * te.bytes ≤ 140737488355328) :
    ∃ cells, (Builtin.append_ #[t, t] ty #[.slice adx n0 c0, .slice (some ⟨b, o, none⟩) n c]).run P w = .ok (.slice (some ⟨w.heap.size, 0, none⟩) (n0 + n) (grownCap w (n0 + n) c0 e)) (w.drew.alloc (.cells cells e)) ∧
      ∃ rest, cells.toList = olds ++ news ++ rest ∧ cells.size = grownCap w (n0 + n) c0 e * te.size := by
  have hz : ze.cells.size = te.size := by have h1 := congrArg List.length hty.zc; rw [hty.zl] at h1; simpa using h1
  have hge := grownCap_ge w (n0 + n) c0 e
  have hsize : ∀ m, (Builtin.zeroCells ze.cells m).size = m * te.size := by intro m; rw [size_zeroCells, hz]
  have harith : n0 * te.size + n * te.size + (grownCap w (n0 + n) c0 e - (n0 + n)) * te.size = grownCap w (n0 + n) c0 e * te.size := by
    rw [← Nat.add_mul, ← Nat.add_mul]; congr 1; omega
  cases adx with
  | none =>
    obtain ⟨rfl, rfl⟩ := hnone rfl
    have ho : olds = [] := List.eq_nil_of_length_eq_zero (by simpa using hlo)
    subst ho
    have hr := run_append_nil (P := P) w t ty e ie ze hsl hty.info hty.zero ⟨b, o, none⟩ n c news (by rw [hty.sz]; exact hl) (fun j v hv => by rw [plain_add]; exact hnews j v hv) (by omega) (by omega) (by rw [hty.by_]; rw [Nat.zero_add] at hby; omega)
    simp only [Nat.zero_add, Nat.zero_mul] at harith ⊢
    refine ⟨_, hr, _, by simp; rfl, ?_⟩
    simp only [Array.size_append, List.size_toArray, hsize, hl]
    exact harith
  | some ad =>
    have hr := run_append_grow (P := P) w t ty e ie ze hsl hty.info hty.zero ad n0 c0 olds (by rw [hty.sz]; exact hlo) (hold ad rfl) ⟨b, o, none⟩ n c news (by rw [hty.sz]; exact hl) (fun j v hv => by rw [plain_add]; exact hnews j v hv) hg (by omega) (by rw [hty.by_]; exact growslice_fits hg hby)
    refine ⟨_, hr, _, by simp; rfl, ?_⟩
    simp only [Array.size_append, List.size_toArray, hsize, hlo, hl]
    exact harith
theorem append_none {t e ty : Nat} (hsl : P.underlying t = some (.slice e)) {te : TI} {ie : TypeInfo} {ze : Value} {dse : TypeDesc} (hty : TyF P e te ie ze dse) (adx ady : Option Addr) (n0 c0 c : Nat) (hn : n0 ≤ c0) :
    (Builtin.append_ #[t, t] ty #[.slice adx n0 c0, .slice ady 0 c]).run P w = .ok (.slice adx n0 c0) w := by
  cases adx <;> cases ady <;> simp [Builtin.append_, run_underlying hsl, hty.sizeOf, Builtin.lenOf, hn, Builtin.firstCells, loadCells, loadCellsFrom, storeCells]
theorem append_room {t e ty : Nat} (hsl : P.underlying t = some (.slice e)) {te : TI} {ie : TypeInfo} {ze : Value} {dse : TypeDesc} (hty : TyF P e te ie ze dse) (g o0 n0 c0 : Nat) (cur : Array Value) (et : TypeId) (hg : w.heap[g]? = some (.cells cur et (0, 0)))
    (b o n c : Nat) (news : List Value) (hl : news.length = n * te.size) (hnews : ∀ j v, news[j]? = some v → w.cell? ⟨b, o + j, none⟩ = some v) (h1 : ∀ u ∈ news, u.oneCell' = true) (hroom : n0 + n ≤ c0) (hfit : o0 + n0 * te.size + news.length ≤ cur.size) :
    (Builtin.append_ #[t, t] ty #[.slice (some ⟨g, o0, none⟩) n0 c0, .slice (some ⟨b, o, none⟩) n c]).run P w = .ok (.slice (some ⟨g, o0, none⟩) (n0 + n) c0) (w.setRow g (splice cur.toList (o0 + n0 * te.size) news).toArray) := by
  have hf := run_firstCells_some (P := P) w te.size n ⟨b, o, none⟩ n c news hl (fun j v hv => by rw [plain_add]; exact hnews j v hv)
  have hst := run_storeCells_at P g (o0 + n0 * te.size) et news 0 cur w hg (by simpa using hfit) h1
  simp only [Nat.add_zero] at hst
  simp [Builtin.append_, run_underlying hsl, hty.sizeOf, Builtin.lenOf, hroom, hf, plain_add, hst, splice]
theorem append_ok {T : Tab} (hT : TyOk P T) (h : Sim1 cx s a w St bl) {o : Oper} {c : Call} {x y : Operand} {t d : Nat} (ho : o.op = .call c) (hc : c.callee = .builtin .append) (ha : c.args.toList = [x, y]) (hat : c.argTypes.toList = [t, t]) (hd : d < 1000)
    {u : Out} (hu : appendO s T d t (eval s x) (eval s y) = some u) (hob : u.ob) : OpOk P cx s a w St bl o u := by
  have hargs : c.args = #[x, y] := by rw [← Array.toArray_toList (xs := c.args), ha]
  have hats : c.argTypes = #[t, t] := by rw [← Array.toArray_toList (xs := c.argTypes), hat]
  have hx := eval_rel h x
  have hex : ∀ v v', a.eval x = v → a.eval y = v' → execOp a.eval o = (do pure (.value (← Builtin.append_ #[t, t] o.type #[v, v']))) := by
    intro v v' hv hv'
    simp only [execOp, ho, resolve, hc, hargs, hats]
    simp [invoke, builtin, hv, hv']
  unfold appendO at hu
  split at hu
  case h_2 => cases hu
  rename_i ti ht
  split at hu
  case h_2 => cases hu
  rename_i e hds
  split at hu
  case h_2 => cases hu
  rename_i te ys hte hys
  obtain ⟨_, _, _, hty⟩ := hT.get ht
  obtain ⟨ie, ze, dse, hte'⟩ := hT.get hte
  have hsl := hty.sl hds
  obtain ⟨ady, capy, hvy, hcapy, hrowy⟩ := elems_rel h (eval_rel h y) hys
  -- what the new elements are
  have hnews : ys ≠ [] → (∀ e ∈ ys, e.length = te.size) → ∃ b o news, ady = some ⟨b, o, none⟩ ∧ news.length = ys.length * te.size ∧ (∀ j v, news[j]? = some v → w.cell? ⟨b, o + j, none⟩ = some v) ∧ All2 (RelD w St) ys.flatten news := by
    intro hne hsz
    obtain ⟨b, o, sz, rfl, hr⟩ := hrowy hne
    have hsz' : sz = te.size := by
      cases ys with
      | nil => exact absurd rfl hne
      | cons e es => rw [← hr.1 e (by simp), hsz e (by simp)]
    subst hsz'
    obtain ⟨news, h1, h2⟩ := flat_cells hr
    exact ⟨b, o, news, rfl, by rw [← h2.length, flatten_length _ _ hsz], h1, h2⟩
  -- an append that grows: the general end
  have grow : ∀ (k : Nat) (X Wk R : List Nat) (ob : Prop) (olds : List (List D)) (ovs : List Value) (adx : Option Addr) (c0 : Nat), ys ≠ [] → (∀ e ∈ ys, e.length = te.size) → (∀ e ∈ olds, e.length = te.size) → 0 < te.size →
      a.eval x = .slice adx olds.length c0 → All2 (RelD w St) olds.flatten ovs → (adx = none → olds.length = 0 ∧ c0 = 0) → (∀ ad, adx = some ad → ∀ j v, ovs[j]? = some v → w.cell? (ad.add j) = some v) → c0 < olds.length + ys.length →
      (olds ++ ys).length * te.bytes ≤ 140737488355328 → (olds ++ ys).length ≤ 140737488355328 → (k ∈ X ∨ s.M k = none) → ¬ (1000 ≤ k ∧ k < 2000) →
      OpOk P cx s a w St bl o ⟨.ref k 0 (olds ++ ys).length, X, upd (scrM X s.M) k (some (.row te.size (olds ++ ys))), Wk, R, ob⟩ := by
    intro k X Wk R ob olds ovs adx c0 hne hysz hosz hsz0 hvx hovs hnone hold hg hby hlen hX hnrt
    obtain ⟨b, o2, news, rfl, hnl, hnc, hnr⟩ := hnews hne hysz
    simp only [List.length_append] at hby hlen
    obtain ⟨cells, hr, rest, hcl, hcs⟩ := append_grow (P := P) (w := w) (ty := o.type) hsl hte' adx olds.length c0 ovs (by rw [← hovs.length, flatten_length _ _ hosz]) hnone hold b o2 ys.length capy news hnl hnc hg hlen hby
    have hcap := grownCap_le_maxLen w (olds.length + ys.length) c0 e (by simp only [maxLen]; omega)
    have hge := grownCap_ge w (olds.length + ys.length) c0 e
    refine OpOk.obj h (w' := w.drew.alloc (.cells cells e)) (l := ⟨some w.heap.size, 0, te.size, grownCap w (olds.length + ys.length) c0 e⟩) (u := .slice (some ⟨w.heap.size, 0, none⟩) (olds.length + ys.length) (grownCap w (olds.length + ys.length) c0 e)) (nx := .value _)
      (by rw [hex _ _ hvx hvy, Sem.run_bind, hr]; rfl) (.inl rfl) rfl rfl rfl (by simp) (fun b hb _ => fresh_alloc (w := w.drew) b hb) (fun b hb => by cases hb; exact .inl ⟨Nat.le_refl _, by simp⟩) (hX.imp id .inr) (fun p1 p2 => absurd ⟨p1, p2⟩ hnrt) ?_ ?_
    · intro M' bl' hM hbl mv
      have hrow := row_of_cells (St := St) (w := w.drew.alloc (.cells cells e)) (b := w.heap.size) (heap_alloc_new w.drew _) (ds := (olds ++ ys).flatten) (sz := te.size) (n := (olds ++ ys).length) 0 (pre := []) (vs := ovs ++ news) (post := rest) (by simpa using hcl) rfl
        (by rw [List.flatten_append]; exact all2_imp (all2_append hovs hnr) fun _ _ hr => hr.mv mv.st) (flatten_length _ _ (by
          intro e he; rcases List.mem_append.1 he with he | he
          · exact hosz e he
          · exact hysz e he))
      rw [chunks_flatten _ _ (by
          intro e he; rcases List.mem_append.1 he with he | he
          · exact hosz e he
          · exact hysz e he)] at hrow
      exact row_obj (b := w.heap.size) (by rw [hbl, upd_same]) (heap_alloc_new w.drew _) hcs (List.length_append ..) hge hcap hrow
    · intro M' bl' hM hbl
      have := ref_new (St := St) (w' := w.drew.alloc (.cells cells e)) hM hbl (rfl : (olds ++ ys).length = (olds ++ ys).length)
      rwa [List.length_append] at this ⊢
  split at hu
  · rename_i es he
    simp only [Option.some.injEq] at hu; subst hu
    obtain ⟨hk, hsz0, hdis, hes, hysz, hby, hlen⟩ := hob
    rw [he] at hx
    obtain ⟨hrd, adx, hvx⟩ := (show RelC w St s.M bl (.full es) (a.eval x) from hx)
    rw [RelD.sl_iff] at hrd
    obtain ⟨ad', cap', hv', g1, g2, g3⟩ := hrd
    rw [hvx] at hv'
    simp only [Value.slice.injEq] at hv'
    obtain ⟨rfl, -, rfl⟩ := hv'
    have hXe : upd s.M d (some (Ob.row te.size (es ++ ys))) = upd (scrM [] s.M) d (some (Ob.row te.size (es ++ ys))) := (scrM_nil_upd ..).symm
    rw [hXe]
    by_cases hne : ys = []
    · rcases hdis with hes0 | hys0
      · subst hes0; subst hne
        refine OpOk.obj h (w' := w) (l := ⟨none, 0, te.size, 0⟩) (u := .slice adx 0 0) (nx := .value _) ?_ (.inl rfl) rfl rfl rfl (Nat.le_refl _) (fun _ _ _ => rfl) (fun b hb => by cases hb) (.inr (.inr hk)) (fun p1 p2 => by omega) ?_ ?_
        · rw [hex _ _ hvx hvy, Sem.run_bind, List.length_nil, append_none hsl hte' adx ady 0 0 capy (Nat.le_refl _)]; rfl
        · intro M' bl' hM hbl mv; exact .inl ⟨by rw [hbl, upd_same], rfl, by rw [hbl, upd_same]⟩
        · intro M' bl' hM hbl
          exact RelV.of_c (x := .ref ..) ⟨_, _, adx, hM, Nat.le_refl _, by rw [hbl]; rfl, fun hlt => by rw [hbl] at hlt; cases hlt⟩
      · exact absurd hne hys0
    · have hpos : 0 < ys.length := List.length_pos_iff.2 hne
      by_cases hnil : es = []
      · subst hnil
        exact grow d [] _ _ _ [] [] adx 0 hne hysz (by simp) hsz0 hvx .nil (fun _ => ⟨rfl, rfl⟩) (fun _ _ j v hv => by simp at hv) (by simpa using hpos) hby hlen (.inr hk) (by omega)
      · obtain ⟨b, o2, sz, rfl, hq, hr⟩ := g3 hnil
        have hsz' : sz = te.size := by
          cases es with
          | nil => exact absurd rfl hnil
          | cons e es => rw [← hr.1 e (by simp), hes e (by simp)]
        subst hsz'
        obtain ⟨ovs, hoc, hor⟩ := flat_cells hr
        exact grow d [] _ _ _ es ovs _ es.length hne hysz hes hsz0 hvx hor (fun h => by cases h) (fun ad had j v hv => by cases had; rw [plain_add]; exact hoc j v hv) (by omega) hby hlen (.inr hk) (by omega)
  · rename_i k lo len he
    split at hu
    case h_2 => cases hu
    rename_i sz es hm
    simp only [Option.some.injEq] at hu; subst hu
    obtain ⟨rfl, hsz0, hysz, hby, hlen, hnr⟩ := hob
    rw [he] at hx
    obtain ⟨sz', es2, adx, hm', hle, hvx, hfr⟩ := (show RelC w St s.M bl (.ref k lo len) (a.eval x) from hx)
    rw [hm] at hm'; cases hm'
    have hEl : ((es.drop lo).take len).length = len := by simp; omega
    rcases h.mem.ob k _ hm with ⟨g1, g2, g3⟩ | ⟨b, c, e', g0, g1, g2, g3, g4, g5, g6⟩
    · subst g2
      simp at hle
      obtain ⟨rfl, rfl⟩ := hle
      have hc0 : (bl k).cap - 0 = 0 := by rw [g3]
      rw [hc0] at hvx
      by_cases hne : ys = []
      · subst hne
        refine OpOk.obj h (w' := w) (l := bl k) (u := .slice adx 0 0) (nx := .value _) ?_ (.inl rfl) rfl rfl rfl (Nat.le_refl _) (fun _ _ _ => rfl) (fun b hb => by rw [g1] at hb; cases hb) (.inl (by simp)) (fun p1 p2 => absurd ⟨p1, p2⟩ hnr) ?_ ?_
        · rw [hex _ _ hvx hvy, Sem.run_bind, List.length_nil, append_none hsl hte' adx ady 0 0 capy (Nat.le_refl _)]; rfl
        · intro M' bl' hM hbl mv; exact .inl ⟨by rw [hbl, upd_same]; exact g1, by simp, by rw [hbl, upd_same]; exact g3⟩
        · intro M' bl' hM hbl
          exact RelV.of_c (x := .ref ..) ⟨_, _, adx, hM, by simp, by rw [hbl, g3]; rfl, fun hlt => by rw [hbl, g3] at hlt; cases hlt⟩
      · have hpos : 0 < ys.length := List.length_pos_iff.2 hne
        have := grow k [k] [k] (k :: (eval s y).keys) (te.size = te.size ∧ 0 < te.size ∧ (∀ e ∈ ys, e.length = te.size) ∧ ((([] : List (List D)).drop 0).take 0 ++ ys).length * te.bytes ≤ 140737488355328 ∧ ((([] : List (List D)).drop 0).take 0 ++ ys).length ≤ 140737488355328 ∧ ¬ (1000 ≤ k ∧ k < 2000)) [] [] adx 0 hne hysz (by simp) hsz0 hvx .nil (fun _ => ⟨rfl, rfl⟩) (fun _ _ j v hv => by simp at hv) (by simpa using hpos) (by simpa using hby) (by simpa using hlen) (.inl (by simp)) hnr
        simpa using this
    · -- there is a block
      have hsub := row_sub (l := lo) (n := len) g6
      have hEsz : ∀ e ∈ (es.drop lo).take len, e.length = te.size := fun e he => by rw [← g0]; exact hsub.1 e he
      by_cases hroom : len + ys.length ≤ (bl k).cap - lo
      · -- in place
        have hcs : c.size = (bl k).o + lo * (bl k).sz + ((bl k).cap - lo) * (bl k).sz := by
          rw [g3, Nat.add_assoc, ← Nat.add_mul]; congr 2; omega
        have hk' : ∀ (w' : World) (vs : List Value), w'.os = w.os → w'.tape = w.tape → w'.output = w.output → w'.heap.size = w.heap.size → (∀ b', b' ≠ b → w'.heap[b']? = w.heap[b']?) → (∃ c', w'.heap[b]? = some (.cells c' e' (0, 0)) ∧ c'.size = c.size) →
            (execOp a.eval o).run P w = .ok (.value (.slice adx (len + ys.length) ((bl k).cap - lo))) w' →
            ((Mv w St s.M bl w' St (upd (scrM [k] s.M) k (some (.row te.size ((es.drop lo).take len ++ ys)))) (upd bl k ⟨some b, (bl k).o + lo * (bl k).sz, te.size, (bl k).cap - lo⟩) (· ∈ [k])) → RelRow w' St ((es.drop lo).take len ++ ys) b ((bl k).o + lo * (bl k).sz) te.size) →
            OpOk P cx s a w St bl o ⟨.ref k 0 ((es.drop lo).take len ++ ys).length, [k], upd (scrM [k] s.M) k (some (.row te.size ((es.drop lo).take len ++ ys))), [k], k :: (eval s y).keys, te.size = te.size ∧ 0 < te.size ∧ (∀ e ∈ ys, e.length = te.size) ∧ ((es.drop lo).take len ++ ys).length * te.bytes ≤ 140737488355328 ∧ ((es.drop lo).take len ++ ys).length ≤ 140737488355328 ∧ ¬ (1000 ≤ k ∧ k < 2000)⟩ := by
          intro w' vs hos htape hout hsize hoth ⟨c', hc', hcs'⟩ hr hrow
          refine OpOk.obj h (w' := w') (l := ⟨some b, (bl k).o + lo * (bl k).sz, te.size, (bl k).cap - lo⟩) (nx := .value _) hr (.inl rfl) hos htape hout (by omega) (fun b' hb' hne => hoth b' (by rintro rfl; exact hne _ hm g1)) (fun b' hb' => by cases hb'; exact .inr ⟨_, hm, g1⟩) (.inl (by simp)) (fun p1 p2 => absurd ⟨p1, p2⟩ hnr) ?_ ?_
          · intro M' bl' hM hbl mv
            subst hM; subst hbl
            refine .inr ⟨b, c', e', by rw [upd_same], by rw [upd_same], hc', ?_, ?_, ?_, ?_⟩
            · rw [upd_same, hcs', hcs, g0]
            · rw [upd_same, List.length_append, hEl]; exact hroom
            · rw [upd_same]; show (bl k).cap - lo ≤ maxLen; omega
            · rw [upd_same]; exact hrow mv
          · intro M' bl' hM hbl
            have hcapE : adx = some ⟨b, (bl k).o + lo * (bl k).sz, none⟩ ∨ (bl k).cap - lo = 0 := by
              by_cases hlt : lo < (bl k).cap
              · obtain ⟨b2, hb2, e2⟩ := hfr hlt
                rw [g1] at hb2; cases hb2
                exact .inl e2
              · exact .inr (by omega)
            refine RelV.of_c (x := .ref ..) ⟨_, _, adx, hM, by simp, by rw [hbl, List.length_append, hEl]; rfl, fun hlt => ?_⟩
            rw [hbl] at hlt
            rcases hcapE with e2 | e2
            · exact ⟨b, by rw [hbl], by rw [hbl, e2]; simp⟩
            · exact absurd hlt (by show ¬ (0 < (bl k).cap - lo); omega)
        by_cases hne : ys = []
        · subst hne
          refine hk' w [] rfl rfl rfl rfl (fun _ _ => rfl) ⟨c, g2, rfl⟩ ?_ ?_
          · rw [hex _ _ hvx hvy, Sem.run_bind, List.length_nil, append_none hsl hte' adx ady len _ capy (by omega)]; rfl
          · intro mv; rw [List.append_nil, ← g0]; exact hsub
        · obtain ⟨by_, oy, news, rfl, hnl, hnc, hnr⟩ := hnews hne hysz
          have hpos : 0 < ys.length := List.length_pos_iff.2 hne
          obtain ⟨b2, hb2, rfl⟩ := hfr (by omega)
          rw [g1] at hb2; cases hb2
          obtain ⟨ovs, hoc, hor⟩ := flat_cells hsub
          have hovl : ovs.length = len * te.size := by rw [← hor.length, flatten_length _ _ hEsz, hEl]
          have hfit : (bl k).o + lo * (bl k).sz + len * te.size + news.length ≤ c.size := by
            rw [hcs, hnl, g0, Nat.add_assoc, ← Nat.add_mul]
            exact Nat.add_le_add_left (Nat.mul_le_mul_right _ hroom) _
          have hr := append_room (P := P) (w := w) (ty := o.type) hsl hte' b ((bl k).o + lo * (bl k).sz) len ((bl k).cap - lo) c e' g2 by_ oy ys.length capy news hnl hnc (all2_one hnr) hroom hfit
          refine hk' (w.setRow b (splice c.toList ((bl k).o + lo * (bl k).sz + len * te.size) news).toArray) [] rfl rfl rfl (by simp) (setRow_keeps b _) ⟨_, setRow_heap w b c _ e' _ g2, by
            have := splice_length c.toList news ((bl k).o + lo * (bl k).sz + len * te.size) (by simpa using hfit)
            simpa using this⟩ ?_ ?_
          · rw [hex _ _ hvx hvy, Sem.run_bind, hr]; rfl
          · intro mv
            have hEs : ∀ e ∈ (es.drop lo).take len ++ ys, e.length = te.size := by
              intro e he; rcases List.mem_append.1 he with he | he
              · exact hEsz e he
              · exact hysz e he
            have hsplit : (splice c.toList ((bl k).o + lo * (bl k).sz + len * te.size) news) = c.toList.take ((bl k).o + lo * (bl k).sz) ++ (ovs ++ news) ++ c.toList.drop ((bl k).o + lo * (bl k).sz + len * te.size + news.length) := by
              unfold splice
              rw [← List.append_assoc]
              congr 2
              rw [List.take_add]
              congr 1
              apply List.ext_getElem?
              intro j
              by_cases hj : j < ovs.length
              · have h7 := hoc j ovs[j] (by simp [hj])
                rw [cell_of_row w b _ c e' (0, 0) g2] at h7
                rw [List.getElem?_take_of_lt (by omega), List.getElem?_drop]
                simp only [List.getElem?_eq_getElem hj]
                simpa using h7
              · rw [List.getElem?_eq_none (by simp; omega), List.getElem?_eq_none (by omega)]
            have hrow := row_of_cells (St := St) (setRow_heap w b c (splice c.toList ((bl k).o + lo * (bl k).sz + len * te.size) news).toArray e' _ g2) (ds := ((es.drop lo).take len ++ ys).flatten) (sz := te.size) (n := ((es.drop lo).take len ++ ys).length) ((bl k).o + lo * (bl k).sz)
              (pre := c.toList.take ((bl k).o + lo * (bl k).sz)) (vs := ovs ++ news) (post := c.toList.drop ((bl k).o + lo * (bl k).sz + len * te.size + news.length)) (by simpa using hsplit) (by simp; omega)
              (by rw [List.flatten_append]; exact all2_imp (all2_append hor hnr) fun _ _ hr => hr.mv mv.st) (flatten_length _ _ hEs)
            rwa [chunks_flatten _ _ hEs] at hrow
      · -- it grows
        have hne : ys ≠ [] := by
          rintro rfl
          simp at hroom
          omega
        obtain ⟨ovs, hoc, hor⟩ := flat_cells hsub
        have hpos : 0 < ys.length := List.length_pos_iff.2 hne
        by_cases hlt : lo < (bl k).cap
        · obtain ⟨b2, hb2, rfl⟩ := hfr hlt
          rw [g1] at hb2; cases hb2
          exact grow k [k] [k] (k :: (eval s y).keys) _ ((es.drop lo).take len) ovs _ ((bl k).cap - lo) hne hysz hEsz hsz0 (by rw [hEl]; exact hvx) hor (fun h => by cases h) (fun ad had j v hv => by cases had; rw [plain_add]; exact hoc j v hv) (by rw [hEl]; omega) hby hlen (.inl (by simp)) hnr
        · have hl0 : len = 0 := by omega
          subst hl0
          have hE0 : (es.drop lo).take 0 = [] := by simp
          rw [hE0] at hby hlen ⊢
          exact grow k [k] [k] (k :: (eval s y).keys) _ [] [] adx ((bl k).cap - lo) hne hysz (by simp) hsz0 hvx .nil (fun _ => ⟨rfl, by omega⟩) (fun _ _ j v hv => by simp at hv) (by simp; omega) hby hlen (.inl (by simp)) hnr
  · cases hu
theorem out_ok {T : Tab} (hT : TyOk P T) (h : Sim1 cx s a w St bl) {o : Oper} {d : Nat} (hd : d < 1000) {u : Out}
    (hu : out T s o.op d = some u) (hob : u.ob) : OpOk P cx s a w St bl o u := by
  generalize hop : o.op = op at hu
  cases op with
  | move x => exact move_ok (T := T) h (.inl hop) (by rw [hop]; exact hu)
  | assign x => exact move_ok (T := T) h (.inr hop) (by rw [hop]; exact hu)
  | pick c x y => exact pick_ok h hop hu
  | alloc t => exact alloc_ok hT h hop hd hu hob
  | box t x => exact box_ok h hop hd hu hob
  | build t ps => exact build_ok hT h hop hu hob
  | buildSlice t n ps => exact buildSlice_ok hT h hop hd hu hob
  | load t x => exact load_ok hT h hop hu hob
  | store t x y => exact store_ok hT h hop hu hob
  | nilCheck x => exact nilCheck_ok h hop hu
  | binOp op t x y t' => exact binOp_ok hT h hop hu hob
  | unOp op t x => exact unOp_ok h hop hu
  | convert src dst x => exact convert_ok hT h hop hu hob
  | makeFunc f first caps => exact makeFunc_ok h hop hu
  | makeSlice t l c => exact makeSlice_ok hT h hop hd hu hob
  | slice t x lo hi mx => exact slice_ok hT h hop hu hob
  | fieldAddr t x f => exact fieldAddr_ok hT h hop hu hob
  | field t x f => exact field_ok hT h hop hu hob
  | indexAddr t x i => exact indexAddr_ok hT h hop hu hob
  | index t x i => exact index_ok hT h hop hu hob
  | extract t j => exact extract_ok h hop hu
  | range t x => exact range_ok hT h hop hd hu hob
  | next x st => exact next_ok h hop hu
  | makeMap t r => exact makeMap_ok h hop hd hu hob
  | mapUpdate t m k v => exact mapUpdate_ok hT h hop hu
  | lookup t m k ok => exact lookup_ok hT h hop hu hob
  | call c =>
    simp only [out] at hu
    split at hu
    · rename_i x hc ha
      split at hu
      · rename_i t hat
        split at hu
        · rename_i ti ht
          exact len_ok hT h hop hc ha hat ht hu
        · cases hu
      · cases hu
    · rename_i x y hc ha
      split at hu
      · rename_i t t' hat
        split at hu
        · rename_i e
          subst e
          exact append_ok hT h hop hc ha hat hd hu hob
        · cases hu
      · cases hu
    · cases hu
  | _ => simp [out] at hu
end
end Go.Pw

namespace Go.Pw
open Go
def AV.ren1 (ρ : Nat → Nat) : AV → AV
  | .ref k lo len => .ref (ρ k) lo len
  | .ptr k i off => .ptr (ρ k) i off
  | .mp k => .mp (ρ k)
  | .fn f caps => .fn f (caps.map fun c => (ρ c.1, c.2.1, c.2.2))
  | .dead ks => .dead (ks.map ρ)
  | x => x
def AV.ren2 (ρ : Nat → Nat) : AV → AV
  | .agg cs => .agg (cs.map (AV.ren1 ρ))
  | x => x.ren1 ρ
def AV.ren (ρ : Nat → Nat) : AV → AV
  | .tup vs => .tup (vs.map (AV.ren2 ρ))
  | x => x.ren2 ρ
def Ob.ren (ρ : Nat → Nat) : Ob → Ob
  | .box cs => .box (cs.map (AV.ren1 ρ))
  | o => o
def AV.clean1 : AV → Bool
  | .bo _ | .dp _ => false
  | _ => true
def AV.clean2 : AV → Bool
  | .agg cs => cs.all AV.clean1
  | x => x.clean1
def AV.clean : AV → Bool
  | .tup vs => vs.all AV.clean2
  | x => x.clean2
def Ob.clean : Ob → Bool
  | .box cs => cs.all AV.clean1
  | _ => true
def Ob.isBox : Ob → Bool
  | .box _ => true
  | _ => false
def Ob.shape : Ob → Nat × Nat × Nat
  | .box _ => (0, 0, 0)
  | .row sz es => (1, sz, es.length)
  | .raw _ => (2, 0, 0)
theorem Ob.like_shape {a b : Ob} (h : a.shape = b.shape) : a.like b := by
  cases a <;> cases b <;> simp [Ob.shape] at h <;> simp [Ob.like, h]
theorem Ob.shape_ren (ρ : Nat → Nat) (o : Ob) : (o.ren ρ).shape = o.shape := by cases o <;> rfl
def Ob.sameRow : Ob → Ob → Prop
  | .row sz es, .row sz' es' => sz = sz' ∧ es = es'
  | .box _, .box _ => True
  | .raw x, .raw y => x = y
  | _, _ => False
section
variable {w : World} {St : Nat → Prop} {M M' : Mm} {bl bl' : Lc} {ρ : Nat → Nat}
structure Ren (M : Mm) (bl : Lc) (M' : Mm) (bl' : Lc) (ρ : Nat → Nat) (K : Nat → Prop) : Prop where
  key : ∀ k o, K k → M k = some o → (∃ o', M' (ρ k) = some o' ∧ o.sameRow o') ∧ bl' (ρ k) = bl k
variable {K : Nat → Prop}
theorem RelP.ren (h : Ren M bl M' bl' ρ K) {k i off : Nat} {v : Value} (hk : K k) (hv : RelP M bl k i off v) : RelP M' bl' (ρ k) i off v := by
  obtain ⟨b, o, hm, hb, rfl⟩ := hv
  obtain ⟨⟨o', hm', _⟩, he⟩ := h.key k o hk hm
  exact ⟨b, o', hm', by rw [he]; exact hb, by rw [he]⟩
theorem RelC.ren (h : Ren M bl M' bl' ρ K) {x : AV} {v : Value} (hk : ∀ k ∈ x.keys1, K k) (hc : x.clean1 = true ∨ ∀ b, b < w.heap.size → Free M bl b → Free M' bl' b) (hv : RelC w St M bl x v) : RelC w St M' bl' (x.ren1 ρ) v := by
  cases x with
  | d x => exact hv
  | full es => exact hv
  | bo es =>
    rcases hc with hc | hc
    · cases hc
    · exact RelSl.mv (w := w) (w' := w) (fun b hb => ⟨hb, rfl⟩) (fun b hb => ⟨⟨hc b hb.2 hb.1, hb.2⟩, rfl⟩) hv
  | mp k =>
    obtain ⟨b, o, hm, hb, rfl⟩ := hv
    obtain ⟨⟨o', hm', _⟩, he⟩ := h.key k o (hk k (by simp [AV.keys1])) hm
    exact ⟨b, o', hm', by rw [he]; exact hb, rfl⟩
  | ref k lo len =>
    obtain ⟨sz, es, a, hm, hl, rfl, ha⟩ := hv
    obtain ⟨⟨o', hm', hlike⟩, he⟩ := h.key k _ (hk k (by simp [AV.keys1])) hm
    cases o' with
    | box cs => exact hlike.elim
    | raw x => exact hlike.elim
    | row sz' es' =>
      obtain ⟨rfl, rfl⟩ := hlike
      exact ⟨sz, es, a, hm', hl, by rw [he], by rw [he]; exact ha⟩
  | ptr k i off => exact RelP.ren h (hk k (by simp [AV.keys1])) hv
  | dp cs =>
    rcases hc with hc | hc
    · cases hc
    · obtain ⟨b, o, rfl, hf, hlt, hcell⟩ := hv
      exact ⟨b, o, rfl, hc b hlt hf, hlt, hcell⟩
  | fn f caps =>
    obtain ⟨vs, rfl, hall⟩ := hv
    refine ⟨vs, rfl, ?_⟩
    have hk' : ∀ c ∈ caps, K c.1 := fun c hc => hk c.1 (List.mem_map.2 ⟨c, hc, rfl⟩)
    clear hk hc
    induction hall with
    | nil => exact .nil
    | cons hr _ ih => exact .cons (RelP.ren h (hk' _ (List.mem_cons_self ..)) hr) (ih fun c hc => hk' c (List.mem_cons_of_mem _ hc))
  | undef => trivial
  | dead ks => trivial
  | agg cs => exact hv.elim
  | tup vs => exact hv.elim
theorem all2_ren {R R' : AV → Value → Prop} {f : AV → AV} {xs : List AV} {vs : List Value} (h : All2 R xs vs) (hi : ∀ x v, x ∈ xs → R x v → R' (f x) v) : All2 R' (xs.map f) vs := by
  induction h with
  | nil => exact .nil
  | cons hr _ ih => exact .cons (hi _ _ (List.mem_cons_self ..) hr) (ih fun x v hx => hi x v (List.mem_cons_of_mem _ hx))
theorem RelT.ren (h : Ren M bl M' bl' ρ K) {x : AV} {v : Value} (hk : ∀ k ∈ x.keys2, K k) (hc : x.clean2 = true ∨ ∀ b, b < w.heap.size → Free M bl b → Free M' bl' b) (hv : RelT w St M bl x v) : RelT w St M' bl' (x.ren2 ρ) v := by
  by_cases hx : ∃ cs, x = .agg cs
  · obtain ⟨cs, rfl⟩ := hx
    obtain ⟨vs, rfl, hall, h1⟩ := hv
    refine ⟨vs, rfl, all2_ren hall fun y u hy hr => RelC.ren h (fun k hk' => hk k (List.mem_flatMap.2 ⟨y, hy, hk'⟩)) (hc.imp (fun hc => ?_) id) hr, h1⟩
    exact List.all_eq_true.1 hc y hy
  · have hx' : ∀ cs, x ≠ .agg cs := fun cs e => hx ⟨cs, e⟩
    rw [(RelT_c hx' v).1] at hv
    rw [(RelT_c (w := w) (St := St) (M := M) (bl := bl) hx' v).2] at hk
    have hcl : x.clean2 = x.clean1 := by cases x <;> first | rfl | exact absurd rfl (hx' _)
    rw [hcl] at hc
    have := RelC.ren h hk hc hv
    have e : x.ren2 ρ = x.ren1 ρ := by cases x <;> first | rfl | exact absurd rfl (hx' _)
    rw [e]
    exact RelT.of_c this
theorem RelV.ren (h : Ren M bl M' bl' ρ K) {x : AV} {v : Value} (hk : ∀ k ∈ x.keys, K k) (hc : x.clean = true ∨ ∀ b, b < w.heap.size → Free M bl b → Free M' bl' b) (hv : RelV w St M bl x v) : RelV w St M' bl' (x.ren ρ) v := by
  by_cases hx : ∃ cs, x = .tup cs
  · obtain ⟨cs, rfl⟩ := hx
    obtain ⟨vs, rfl, hall⟩ := hv
    refine ⟨vs, rfl, all2_ren hall fun y u hy hr => RelT.ren h (fun k hk' => hk k (List.mem_flatMap.2 ⟨y, hy, hk'⟩)) (hc.imp (fun hc => ?_) id) hr⟩
    exact List.all_eq_true.1 hc y hy
  · have hx' : ∀ cs, x ≠ .tup cs := fun cs e => hx ⟨cs, e⟩
    rw [(RelV_t hx' v).1] at hv
    rw [(RelV_t (w := w) (St := St) (M := M) (bl := bl) hx' v).2] at hk
    have hcl : x.clean = x.clean2 := by cases x <;> first | rfl | exact absurd rfl (hx' _)
    rw [hcl] at hc
    have := RelT.ren h hk hc hv
    have e : x.ren ρ = x.ren2 ρ := by cases x <;> first | rfl | exact absurd rfl (hx' _)
    rw [e]
    exact RelV.of_t this
end
def rootM (Ms : List Ob) : Mm := fun k => if 1000 ≤ k ∧ k < 2000 then Ms[k - 1000]? else none
def resM (Ms OW : List Ob) : Mm := fun k => if 1000 ≤ k ∧ k < 2000 then Ms[k - 1000]? else if 2000 ≤ k then OW[k - 2000]? else none
def Cx (n : Nat) (w : World) (St : Nat → Prop) (Ms : List Ob) (bl : Lc) : Ctx := ⟨n, w, St, fun b => ∃ k o, rootM Ms k = some o ∧ (bl k).b = some b, bl⟩
structure C (P : Program) (f : Nat) (args : List AV) (Ms : List Ob) (r : AV) (Ms' OW : List Ob) : Prop where
  fn : ∃ fn, P.funcs[f]? = some fn ∧ (fn.name == "runtime.NumGoroutine") = false ∧ fn.body.isNone = false
  kind : Ms'.map Ob.shape = Ms.map Ob.shape
  clean : Ms'.all Ob.clean = true ∧ r.clean = true
  rows : OW.all (fun o => !o.isBox) = true
  calls : ∀ (w : World) (St : Nat → Prop) (bl : Lc) (cargs : List Value), Mem w St (rootM Ms) bl → All2 (RelV w St (rootM Ms) bl) args cargs →
    Calls P f cargs.toArray w fun e w' => ∃ v St' bl', e = .returned v ∧ Mem w' St' (resM Ms' OW) bl' ∧ RelV w' St' (resM Ms' OW) bl' r v ∧ Frm (Cx 0 w St Ms bl) w' St' (resM Ms' OW) bl'
def rf (ks : List Nat) (k : Nat) : Nat := 1000 + ks.idxOf k
def rb (ks : List Nat) (d k : Nat) : Nat := if k < 2000 then ks.getD (k - 1000) 0 else 2000 + 8 * d + (k - 2000)
def toArg (s : S) (ks : List Nat) (x : AV) : AV :=
  match x with
  | .ref k lo len => if ks.contains k then .ref (rf ks k) lo len else match s.M k with
    | some (.row _ es) => .bo ((es.drop lo).take len)
    | _ => .undef
  | x => if x.keys.all (fun k => ks.contains k) then x.ren (rf ks) else .undef
def callMs (s : S) (ks : List Nat) : List Ob := ks.filterMap fun k => (s.M k).map (Ob.ren (rf ks))
def callX (_ : S) (_ : List Nat) : List Nat := []
def callM (s : S) (ks : List Nat) (d : Nat) (Ms' OW : List Ob) : Mm := fun k =>
  if ks.contains k then (Ms'[ks.idxOf k]?).map (Ob.ren (rb ks d))
  else if 2000 + 8 * d ≤ k ∧ k < 2000 + 8 * d + OW.length then (OW[k - (2000 + 8 * d)]?).map (Ob.ren (rb ks d))
  else (s.M k).map (Ob.scr (callX s ks))
def callOk (s : S) (ks : List Nat) (d : Nat) (OW : List Ob) : Prop :=
  ks.Nodup ∧ ks.length ≤ 1000 ∧ (∀ k ∈ ks, (s.M k).isSome = true) ∧ (∀ k ∈ ks, ∀ o, s.M k = some o → ∀ k' ∈ o.keys, k' ∈ ks) ∧ ∀ j, j < OW.length → s.M (2000 + 8 * d + j) = none
section
variable {P : Program} {cx : Ctx} {s : S} {a : Act} {w : World} {St : Nat → Prop} {bl : Lc}
theorem idxOf_get {ks : List Nat} {k : Nat} (h : k ∈ ks) : ks[ks.idxOf k]? = some k := by
  rw [List.getElem?_eq_getElem (List.idxOf_lt_length_of_mem h)]
  simp
theorem callMs_get {ks : List Nat} (hs : ∀ k ∈ ks, (s.M k).isSome = true) : ∀ (ks' : List Nat), (∀ k ∈ ks', (s.M k).isSome = true) → ∀ j : Nat, (ks'.filterMap fun k => (s.M k).map (Ob.ren (rf ks)))[j]? = (ks'[j]?).bind fun k => (s.M k).map (Ob.ren (rf ks))
  | [], _, j => by simp
  | k :: ks', h, j => by
    obtain ⟨o, ho⟩ := Option.isSome_iff_exists.1 (h k (by simp))
    rw [List.filterMap_cons_some (by rw [ho]; rfl)]
    cases j with
    | zero => simp [ho]
    | succ j => simpa using callMs_get hs ks' (fun x hx => h x (by simp [hx])) j
theorem callMs_len {ks : List Nat} (hs : ∀ k ∈ ks, (s.M k).isSome = true) : (callMs s ks).length = ks.length := by
  unfold callMs
  have : ∀ ks' : List Nat, (∀ k ∈ ks', (s.M k).isSome = true) → (ks'.filterMap fun k => (s.M k).map (Ob.ren (rf ks))).length = ks'.length := by
    intro ks'
    induction ks' with
    | nil => intro; rfl
    | cons k ks' ih =>
      intro h
      obtain ⟨o, ho⟩ := Option.isSome_iff_exists.1 (h k (by simp))
      rw [List.filterMap_cons_some (by rw [ho]; rfl)]
      simp [ih fun x hx => h x (by simp [hx])]
  exact this ks hs
def callBl (bl : Lc) (ks : List Nat) : Lc := fun k => bl (ks.getD (k - 1000) 0)
theorem rootM_call {ks : List Nat} (hs : ∀ k ∈ ks, (s.M k).isSome = true) {k : Nat} {o : Ob} (h : rootM (callMs s ks) k = some o) : ∃ j k0 o0, k = 1000 + j ∧ ks[j]? = some k0 ∧ s.M k0 = some o0 ∧ o = o0.ren (rf ks) ∧ callBl bl ks k = bl k0 := by
  unfold rootM at h
  split at h
  · rename_i hk
    rw [callMs, callMs_get hs ks hs] at h
    cases hj : ks[k - 1000]? with
    | none => rw [hj] at h; cases h
    | some k0 =>
      rw [hj] at h
      simp only [Option.bind_some, Option.map_eq_some_iff] at h
      obtain ⟨o0, ho, rfl⟩ := h
      exact ⟨k - 1000, k0, o0, by omega, hj, ho, rfl, by simp [callBl, List.getD_eq_getElem?_getD, hj]⟩
  · cases h
theorem call_free {ks : List Nat} (hs : ∀ k ∈ ks, (s.M k).isSome = true) {b : Nat} (hf : Free s.M bl b) : Free (rootM (callMs s ks)) (callBl bl ks) b := by
  intro k o hm
  obtain ⟨j, k0, o0, rfl, hj, ho, rfl, hbl⟩ := rootM_call (bl := bl) hs hm
  rw [hbl]
  exact hf k0 o0 ho
theorem call_ren {ks : List Nat} (hlen : ks.length ≤ 1000) (hs : ∀ k ∈ ks, (s.M k).isSome = true) : Ren s.M bl (rootM (callMs s ks)) (callBl bl ks) (rf ks) (· ∈ ks) := by
  refine ⟨fun k o hk hm => ?_⟩
  have hget := idxOf_get hk
  have hlt := List.idxOf_lt_length_of_mem hk
  refine ⟨⟨o.ren (rf ks), ?_, by cases o <;> simp [Ob.sameRow, Ob.ren]⟩, ?_⟩
  · unfold rootM rf
    rw [if_pos (by omega), callMs, callMs_get hs ks hs, show 1000 + ks.idxOf k - 1000 = ks.idxOf k by omega, hget]
    simp [hm]; rfl
  · unfold callBl rf
    rw [show 1000 + ks.idxOf k - 1000 = ks.idxOf k by omega, List.getD_eq_getElem?_getD, hget]; rfl
theorem call_mem (h : Sim1 cx s a w St bl) {ks : List Nat} {d : Nat} {OW : List Ob} (hok : callOk s ks d OW) : Mem w St (rootM (callMs s ks)) (callBl bl ks) := by
  obtain ⟨hnd, hlen, hs, hcl, _⟩ := hok
  refine ⟨fun b hb => ⟨(h.mem.st b hb).1, call_free hs (h.mem.st b hb).2⟩, fun k o hm => ?_, fun k1 k2 o1 o2 b h1 h2 hb1 hb2 => ?_⟩
  · obtain ⟨j, k0, o0, rfl, hj, ho, rfl, hbl⟩ := rootM_call (bl := bl) hs hm
    have h0 := h.mem.ob k0 o0 ho
    cases o0 with
    | raw x =>
      obtain ⟨b, g1, g2, g3⟩ := h0
      exact ⟨b, by rw [hbl]; exact g1, by rw [hbl]; exact g2, g3⟩
    | box cs =>
      obtain ⟨b, c, e, g1, g2, g3, g4⟩ := h0
      refine ⟨b, c, e, by rw [hbl]; exact g1, by rw [hbl]; exact g2, g3, all2_ren g4 fun x v hx hr => RelC.ren (call_ren hlen hs) (fun k hk => ?_) (.inr fun b _ hf => call_free hs hf) hr⟩
      exact hcl k0 (List.mem_of_getElem? hj) _ ho k (List.mem_flatMap.2 ⟨x, hx, keys1_sub _ hk⟩)
    | row sz es =>
      rcases h0 with ⟨g1, g2, g3⟩ | ⟨b, c, e, g0, g1, g2, g3, g4, g5, g6⟩
      · exact .inl ⟨by rw [hbl]; exact g1, g2, by rw [hbl]; exact g3⟩
      · exact .inr ⟨b, c, e, by rw [hbl]; exact g0, by rw [hbl]; exact g1, g2, by rw [hbl]; exact g3, by rw [hbl]; exact g4, by rw [hbl]; exact g5, by rw [hbl]; exact g6⟩
  · obtain ⟨j1, q1, p1, rfl, hj1, ho1, rfl, hbl1⟩ := rootM_call (bl := bl) hs h1
    obtain ⟨j2, q2, p2, rfl, hj2, ho2, rfl, hbl2⟩ := rootM_call (bl := bl) hs h2
    rw [hbl1] at hb1; rw [hbl2] at hb2
    have e := h.mem.inj _ _ _ _ _ ho1 ho2 hb1 hb2
    subst e
    obtain ⟨l1, e1⟩ := List.getElem?_eq_some_iff.1 hj1
    obtain ⟨l2, e2⟩ := List.getElem?_eq_some_iff.1 hj2
    have i1 := List.Nodup.idxOf_getElem hnd j1 l1
    have i2 := List.Nodup.idxOf_getElem hnd j2 l2
    rw [e1] at i1
    rw [e2] at i2
    omega
theorem toArg_rel (h : Sim1 cx s a w St bl) {ks : List Nat} {d : Nat} {OW : List Ob} (hok : callOk s ks d OW) {x : AV} {v : Value} (hv : RelV w St s.M bl x v) : RelV w St (rootM (callMs s ks)) (callBl bl ks) (toArg s ks x) v := by
  obtain ⟨hnd, hlen, hs, hcl, _⟩ := hok
  have hren := call_ren (bl := bl) hlen hs
  have hfr : ∀ b, b < w.heap.size → Free s.M bl b → Free (rootM (callMs s ks)) (callBl bl ks) b := fun b _ hf => call_free hs hf
  unfold toArg
  split
  · rename_i k lo len
    split
    · rename_i hk
      exact RelV.ren (x := .ref k lo len) hren (fun k' hk' => by
        have : k' = k := by simpa [AV.keys, AV.keys2, AV.keys1] using hk'
        subst this; simpa using hk) (.inr hfr) hv
    · rename_i hk
      split
      · rename_i sz es hm
        obtain ⟨sz', es', ad, hm', hl, rfl, ha⟩ := (show RelC w St s.M bl (.ref k lo len) v from hv)
        rw [hm] at hm'; cases hm'
        have hlen2 : ((es.drop lo).take len).length = len := by simp; omega
        rcases h.mem.ob k _ hm with ⟨g1, g2, g3⟩ | ⟨b, c, e, g0, g1, g2, g3, g4, g5, g6⟩
        · subst g2
          exact ⟨ad, _, by rw [hlen2], by simp, by rw [g3]; omega, fun hne => absurd (by simp) hne⟩
        · refine ⟨ad, (bl k).cap - lo, by rw [hlen2], by rw [hlen2]; omega, by omega, fun hne => ?_⟩
          have hlt : lo < (bl k).cap := by
            have : 0 < ((es.drop lo).take len).length := List.length_pos_iff.2 hne
            omega
          obtain ⟨b', hb', rfl⟩ := ha hlt
          rw [g1] at hb'; cases hb'
          refine ⟨b, _, (bl k).sz, rfl, ⟨fun k2 o2 hm2 => ?_, h.mem.blt hm g1⟩, row_sub g6⟩
          obtain ⟨j, k0, o0, rfl, hj, ho, rfl, hbl⟩ := rootM_call (bl := bl) hs hm2
          rw [hbl]
          intro hb2
          have := h.mem.inj _ _ _ _ _ ho hm hb2 g1
          subst this
          exact hk (by simpa using List.mem_of_getElem? hj)
      · trivial
  · split
    · rename_i hk
      exact RelV.ren hren (fun k hk' => by simpa using List.all_eq_true.1 hk k hk') (.inr hfr) hv
    · trivial
theorem resM_some {Ms' OW : List Ob} {k : Nat} {o : Ob} (h : resM Ms' OW k = some o) : (∃ j, k = 1000 + j ∧ j < 1000 ∧ Ms'[j]? = some o) ∨ ∃ j, k = 2000 + j ∧ OW[j]? = some o := by
  unfold resM at h
  split at h
  · exact .inl ⟨k - 1000, by omega, by omega, h⟩
  · split at h
    · exact .inr ⟨k - 2000, by omega, h⟩
    · cases h
theorem call_env (h : Sim1 cx s a w St bl) {ks : List Nat} {d : Nat} {Ms' OW : List Ob} {r : AV} (hok : callOk s ks d OW) (hkind : Ms'.map Ob.shape = (callMs s ks).map Ob.shape) (hclean : Ms'.all Ob.clean = true ∧ r.clean = true) (hrows : OW.all (fun o => !o.isBox) = true)
    {w' : World} {St' : Nat → Prop} {bl' : Lc} {v : Value} (mem : Mem w' St' (resM Ms' OW) bl') (hr : RelV w' St' (resM Ms' OW) bl' r v) (frm : Frm (Cx 0 w St (callMs s ks) (callBl bl ks)) w' St' (resM Ms' OW) bl') :
    ∃ bl2, Mv w St s.M bl w' St' (callM s ks d Ms' OW) bl2 (· ∈ callX s ks) ∧ Mem w' St' (callM s ks d Ms' OW) bl2 ∧ Frm cx w' St' (callM s ks d Ms' OW) bl2 ∧ RelV w' St' (callM s ks d Ms' OW) bl2 (r.ren (rb ks d)) v := by
  obtain ⟨hnd, hlen, hs, hcl, hown⟩ := hok
  have hml : Ms'.length = ks.length := by
    have := congrArg List.length hkind
    simpa [callMs_len hs] using this
  have hownks : ∀ j, j < OW.length → 2000 + 8 * d + j ∉ ks := fun j hj hk => by
    have := hs _ hk
    rw [hown j hj] at this; cases this
  let bl2 : Lc := fun k => if ks.contains k then bl' (1000 + ks.idxOf k) else if 2000 + 8 * d ≤ k ∧ k < 2000 + 8 * d + OW.length then bl' (2000 + (k - (2000 + 8 * d))) else bl k
  have b_ks : ∀ k, k ∈ ks → bl2 k = bl' (1000 + ks.idxOf k) := fun k hk => by show (if _ then _ else _) = _; rw [if_pos (by simpa using hk)]
  have b_own : ∀ j, j < OW.length → bl2 (2000 + 8 * d + j) = bl' (2000 + j) := fun j hj => by
    show (if _ then _ else _) = _
    rw [if_neg (by simpa using hownks j hj), if_pos (by omega)]; congr 1; omega
  have b_oth : ∀ k, k ∉ ks → ¬ (2000 + 8 * d ≤ k ∧ k < 2000 + 8 * d + OW.length) → bl2 k = bl k := fun k h1 h2 => by
    show (if _ then _ else _) = _
    rw [if_neg (by simpa using h1), if_neg h2]
  have m_ks : ∀ k, k ∈ ks → callM s ks d Ms' OW k = (Ms'[ks.idxOf k]?).map (Ob.ren (rb ks d)) := fun k hk => by unfold callM; rw [if_pos (by simpa using hk)]
  have m_own : ∀ j, j < OW.length → callM s ks d Ms' OW (2000 + 8 * d + j) = (OW[j]?).map (Ob.ren (rb ks d)) := fun j hj => by
    unfold callM; rw [if_neg (by simpa using hownks j hj), if_pos (by omega)]; congr 2; omega
  have m_oth : ∀ k, k ∉ ks → ¬ (2000 + 8 * d ≤ k ∧ k < 2000 + 8 * d + OW.length) → callM s ks d Ms' OW k = (s.M k).map (Ob.scr (callX s ks)) := fun k h1 h2 => by
    unfold callM; rw [if_neg (by simpa using h1), if_neg h2]
  -- the three sorts of keys
  have sort : ∀ k o, callM s ks d Ms' OW k = some o → (k ∈ ks ∧ ∃ o1, resM Ms' OW (1000 + ks.idxOf k) = some o1 ∧ o = o1.ren (rb ks d)) ∨ (∃ j, k = 2000 + 8 * d + j ∧ j < OW.length ∧ ∃ o1, resM Ms' OW (2000 + j) = some o1 ∧ o = o1.ren (rb ks d)) ∨ (k ∉ ks ∧ ¬ (2000 + 8 * d ≤ k ∧ k < 2000 + 8 * d + OW.length) ∧ ∃ o1, s.M k = some o1 ∧ o = o1.scr (callX s ks)) := by
    intro k o hm
    by_cases h1 : k ∈ ks
    · rw [m_ks k h1, Option.map_eq_some_iff] at hm
      obtain ⟨o1, ho1, rfl⟩ := hm
      refine .inl ⟨h1, o1, ?_, rfl⟩
      have := List.idxOf_lt_length_of_mem h1
      unfold resM; rw [if_pos (by omega), show 1000 + ks.idxOf k - 1000 = ks.idxOf k by omega]; exact ho1
    · by_cases h2 : 2000 + 8 * d ≤ k ∧ k < 2000 + 8 * d + OW.length
      · obtain ⟨j, rfl⟩ : ∃ j, k = 2000 + 8 * d + j := ⟨k - (2000 + 8 * d), by omega⟩
        have hj : j < OW.length := by omega
        rw [m_own j hj, Option.map_eq_some_iff] at hm
        obtain ⟨o1, ho1, rfl⟩ := hm
        refine .inr (.inl ⟨j, rfl, hj, o1, ?_, rfl⟩)
        unfold resM; rw [if_neg (by omega), if_pos (by omega), show 2000 + j - 2000 = j by omega]; exact ho1
      · rw [m_oth k h1 h2, Option.map_eq_some_iff] at hm
        obtain ⟨o1, ho1, rfl⟩ := hm
        exact .inr (.inr ⟨h1, h2, o1, ho1, rfl⟩)
  have r0 : ∀ b, (Cx 0 w St (callMs s ks) (callBl bl ks)).R0 b → ∃ k0 o0, k0 ∈ ks ∧ s.M k0 = some o0 ∧ (bl k0).b = some b := by
    rintro b ⟨k, o, hm, hb⟩
    obtain ⟨j, k0, o0, rfl, hj, ho, rfl, hbl⟩ := rootM_call (bl := bl) hs hm
    rw [hbl] at hb
    exact ⟨k0, o0, List.mem_of_getElem? hj, ho, hb⟩
  have keeps : ∀ b, b < w.heap.size → (∀ k0 o0, k0 ∈ ks → s.M k0 = some o0 → (bl k0).b ≠ some b) → w'.heap[b]? = w.heap[b]? := fun b hb hne =>
    frm.pres b hb fun hR => by obtain ⟨k0, o0, h1, h2, h3⟩ := r0 b hR; exact hne k0 o0 h1 h2 h3
  -- where the callee's objects lie
  have ksblk : ∀ k o1 b, k ∈ ks → resM Ms' OW (1000 + ks.idxOf k) = some o1 → (bl' (1000 + ks.idxOf k)).b = some b → w.heap.size ≤ b ∨ (bl k).b = some b := by
    intro k o1 b hk hm hb
    rcases frm.own _ o1 b hm hb with h1 | ⟨_, _, _, h4⟩
    · exact .inl h1
    · refine .inr ?_
      have hg := idxOf_get hk
      have : (Cx 0 w St (callMs s ks) (callBl bl ks)).bl0 (1000 + ks.idxOf k) = bl k := by
        show callBl bl ks (1000 + ks.idxOf k) = bl k
        unfold callBl
        rw [show 1000 + ks.idxOf k - 1000 = ks.idxOf k by omega, List.getD_eq_getElem?_getD, hg]; rfl
      rw [this] at h4; exact h4
  have ownblk : ∀ j o1 b, resM Ms' OW (2000 + j) = some o1 → (bl' (2000 + j)).b = some b → w.heap.size ≤ b := by
    intro j o1 b hm hb
    rcases frm.own _ o1 b hm hb with h1 | ⟨_, h2, _⟩
    · exact h1
    · omega
  have hren : Ren (resM Ms' OW) bl' (callM s ks d Ms' OW) bl2 (rb ks d) (fun _ => True) := by
    refine ⟨fun k o _ hm => ?_⟩
    rcases resM_some hm with ⟨j, rfl, hj, ho⟩ | ⟨j, rfl, ho⟩
    · have hjl : j < ks.length := by rw [← hml]; exact (List.getElem?_eq_some_iff.1 ho).1
      have hk : rb ks d (1000 + j) = ks[j] := by
        unfold rb; rw [if_pos (by omega), show 1000 + j - 1000 = j by omega, List.getD_eq_getElem?_getD, List.getElem?_eq_getElem hjl]; rfl
      have hmem : ks[j] ∈ ks := List.getElem_mem hjl
      have hidx : ks.idxOf ks[j] = j := List.Nodup.idxOf_getElem hnd j hjl
      rw [hk]
      exact ⟨⟨o.ren (rb ks d), by rw [m_ks _ hmem, hidx, ho]; rfl, by cases o <;> simp [Ob.sameRow, Ob.ren]⟩, by rw [b_ks _ hmem, hidx]⟩
    · have hjl : j < OW.length := (List.getElem?_eq_some_iff.1 ho).1
      have hk : rb ks d (2000 + j) = 2000 + 8 * d + j := by unfold rb; rw [if_neg (by omega)]; omega
      rw [hk]
      exact ⟨⟨o.ren (rb ks d), by rw [m_own j hjl, ho]; rfl, by cases o <;> simp [Ob.sameRow, Ob.ren]⟩, b_own j hjl⟩
  have isob : ∀ k o, k ∈ ks → s.M k = some o → ∃ o', Ms'[ks.idxOf k]? = some o' ∧ o.shape = o'.shape := by
    intro k o0 hk hm
    have hlt := List.idxOf_lt_length_of_mem hk
    have h1 := congrArg (fun l => l[ks.idxOf k]?) hkind
    simp only [List.getElem?_map] at h1
    rw [callMs, callMs_get hs ks hs, idxOf_get hk] at h1
    simp only [Option.bind_some, hm, Option.map_some, Ob.shape_ren] at h1
    cases ho : Ms'[ks.idxOf k]? with
    | none => rw [ho] at h1; cases h1
    | some o => rw [ho] at h1; exact ⟨o, rfl, (Option.some.inj h1).symm⟩
  have mv : Mv w St s.M bl w' St' (callM s ks d Ms' OW) bl2 (· ∈ callX s ks) := by
    refine ⟨fun b hb => ⟨frm.st0 b hb, keeps b (h.mem.st b hb).1 fun k0 o0 _ hm => (h.mem.st b hb).2 k0 o0 hm⟩, fun b hb hf => ⟨fun k o hm => ?_, keeps b hb fun k0 o0 _ hm => hf k0 o0 hm⟩, frm.sz, fun k o hX hm => ?_⟩
    · rcases sort k o hm with ⟨hk, o1, ho1, _⟩ | ⟨j, rfl, hj, o1, ho1, _⟩ | ⟨hk, hno, o1, ho1, _⟩
      · rw [b_ks k hk]
        intro hb2
        rcases ksblk k o1 b hk ho1 hb2 with h1 | h1
        · omega
        · obtain ⟨o2, ho2⟩ := Option.isSome_iff_exists.1 (hs k hk)
          exact hf k o2 ho2 h1
      · rw [b_own j hj]
        intro hb2
        have := ownblk j o1 b ho1 hb2
        omega
      · rw [b_oth k hk hno]; exact hf k o1 ho1
    · by_cases hk : k ∈ ks
      · obtain ⟨o', ho', hsh⟩ := isob k o hk hm
        refine ⟨⟨Ob.ren (rb ks d) o', by rw [m_ks k hk, ho']; rfl, Ob.like_shape (by rw [hsh, Ob.shape_ren])⟩, ?_⟩
        rw [b_ks k hk]
        have hlt := List.idxOf_lt_length_of_mem hk
        have := frm.rb (1000 + ks.idxOf k) o' (by unfold resM; rw [if_pos (by omega), show 1000 + ks.idxOf k - 1000 = ks.idxOf k by omega]; exact ho') (by omega) (by omega)
        rw [this]
        show callBl bl ks (1000 + ks.idxOf k) = bl k
        unfold callBl
        rw [show 1000 + ks.idxOf k - 1000 = ks.idxOf k by omega, List.getD_eq_getElem?_getD, idxOf_get hk]; rfl
      · have hno : ¬ (2000 + 8 * d ≤ k ∧ k < 2000 + 8 * d + OW.length) := by
          intro h2
          have := hown (k - (2000 + 8 * d)) (by omega)
          rw [show 2000 + 8 * d + (k - (2000 + 8 * d)) = k by omega, hm] at this
          cases this
        exact ⟨⟨_, by rw [m_oth k hk hno, hm]; rfl, o.like_scr _⟩, b_oth k hk hno⟩
  have othblk : ∀ k o1 b, k ∉ ks → s.M k = some o1 → (bl k).b = some b → b < w.heap.size ∧ w'.heap[b]? = w.heap[b]? := by
    intro k o1 b hk hm hb
    refine ⟨h.mem.blt hm hb, keeps b (h.mem.blt hm hb) fun k0 o0 hk0 hm0 hb0 => ?_⟩
    have := h.mem.inj _ _ _ _ _ hm0 hm hb0 hb
    subst this
    exact hk hk0
  have mem2 : Mem w' St' (callM s ks d Ms' OW) bl2 := by
    refine ⟨fun b hb => ⟨(mem.st b hb).1, fun k o hm => ?_⟩, fun k o hm => ?_, fun k1 k2 o1 o2 b h1 h2 hb1 hb2 => ?_⟩
    · rcases sort k o hm with ⟨hk, o1, ho1, _⟩ | ⟨j, rfl, hj, o1, ho1, _⟩ | ⟨hk, hno, o1, ho1, _⟩
      · rw [b_ks k hk]; exact (mem.st b hb).2 _ _ ho1
      · rw [b_own j hj]; exact (mem.st b hb).2 _ _ ho1
      · rw [b_oth k hk hno]
        intro hb2
        rcases frm.st b hb with h1 | h1
        · exact (h.mem.st b h1).2 _ _ ho1 hb2
        · have := h.mem.blt ho1 hb2
          have h1' : w.heap.size ≤ b := h1
          omega
    · have back : ∀ (k1 : Nat) (o1 : Ob), resM Ms' OW k1 = some o1 → o1.clean = true → ∀ k, bl2 k = bl' k1 → ObRel w' St' (callM s ks d Ms' OW) bl2 k (o1.ren (rb ks d)) := by
        intro k1 o1 ho1 hc k hbl
        have h0 := mem.ob k1 o1 ho1
        cases o1 with
        | raw x =>
          obtain ⟨b, g1, g2, g3⟩ := h0
          exact ⟨b, by rw [hbl]; exact g1, by rw [hbl]; exact g2, g3⟩
        | box cs =>
          obtain ⟨b, c, e, g1, g2, g3, g4⟩ := h0
          refine ⟨b, c, e, by rw [hbl]; exact g1, by rw [hbl]; exact g2, g3, all2_ren g4 fun x v hx hr => RelC.ren hren (fun _ _ => trivial) (.inl ?_) hr⟩
          exact List.all_eq_true.1 hc x hx
        | row sz es =>
          rcases h0 with ⟨g1, g2, g3⟩ | ⟨b, c, e, g0, g1, g2, g3, g4, g5, g6⟩
          · exact .inl ⟨by rw [hbl]; exact g1, g2, by rw [hbl]; exact g3⟩
          · exact .inr ⟨b, c, e, by rw [hbl]; exact g0, by rw [hbl]; exact g1, g2, by rw [hbl]; exact g3, by rw [hbl]; exact g4, by rw [hbl]; exact g5, by rw [hbl]; exact g6⟩
      rcases sort k o hm with ⟨hk, o1, ho1, rfl⟩ | ⟨j, rfl, hj, o1, ho1, rfl⟩ | ⟨hk, hno, o1, ho1, rfl⟩
      · refine back _ o1 ho1 ?_ k (b_ks k hk)
        have hlt := List.idxOf_lt_length_of_mem hk
        have ho2 : Ms'[ks.idxOf k]? = some o1 := by
          unfold resM at ho1; rw [if_pos (by omega), show 1000 + ks.idxOf k - 1000 = ks.idxOf k by omega] at ho1; exact ho1
        exact List.all_eq_true.1 hclean.1 o1 (List.mem_of_getElem? ho2)
      · refine back _ o1 ho1 ?_ _ (b_own j hj)
        have ho2 : OW[j]? = some o1 := by
          unfold resM at ho1; rw [if_neg (by omega), if_pos (by omega), show 2000 + j - 2000 = j by omega] at ho1; exact ho1
        have := List.all_eq_true.1 hrows o1 (List.mem_of_getElem? ho2)
        cases o1 with
        | box => simp [Ob.isBox] at this
        | row => rfl
        | raw => rfl
      · exact (h.mem.ob k o1 ho1).mv mv (b_oth k hk hno) fun b hb => (othblk k o1 b hk ho1 hb).2
    · have ks_oth : ∀ k k' o1 o2 b, k ∈ ks → resM Ms' OW (1000 + ks.idxOf k) = some o1 → (bl' (1000 + ks.idxOf k)).b = some b → k' ∉ ks → s.M k' = some o2 → (bl k').b = some b → False := by
        intro k k' o1 o2 b hk ho1 hb hk' ho2 hb'
        rcases ksblk k o1 b hk ho1 hb with h3 | h3
        · have := h.mem.blt ho2 hb'; omega
        · obtain ⟨o3, ho3⟩ := Option.isSome_iff_exists.1 (hs k hk)
          have := h.mem.inj _ _ _ _ _ ho3 ho2 h3 hb'
          subst this; exact hk' hk
      have own_oth : ∀ j k' o1 o2 b, resM Ms' OW (2000 + j) = some o1 → (bl' (2000 + j)).b = some b → s.M k' = some o2 → (bl k').b = some b → False := by
        intro j k' o1 o2 b ho1 hb ho2 hb'
        have := ownblk j o1 b ho1 hb
        have := h.mem.blt ho2 hb'
        omega
      rcases sort k1 o1 h1 with ⟨g1, p1, q1, _⟩ | ⟨j1, rfl, g1, p1, q1, _⟩ | ⟨g1, n1, p1, q1, _⟩ <;> rcases sort k2 o2 h2 with ⟨g2, p2, q2, _⟩ | ⟨j2, rfl, g2, p2, q2, _⟩ | ⟨g2, n2, p2, q2, _⟩
      · rw [b_ks _ g1] at hb1; rw [b_ks _ g2] at hb2
        have := mem.inj _ _ _ _ _ q1 q2 hb1 hb2
        have e : ks.idxOf k1 = ks.idxOf k2 := by omega
        have e1 := idxOf_get g1
        have e2 := idxOf_get g2
        rw [e, e2] at e1; cases e1; rfl
      · rw [b_ks _ g1] at hb1; rw [b_own _ g2] at hb2
        have := mem.inj _ _ _ _ _ q1 q2 hb1 hb2
        have := List.idxOf_lt_length_of_mem g1
        omega
      · rw [b_ks _ g1] at hb1; rw [b_oth _ g2 n2] at hb2
        exact (ks_oth _ _ _ _ _ g1 q1 hb1 g2 q2 hb2).elim
      · rw [b_own _ g1] at hb1; rw [b_ks _ g2] at hb2
        have := mem.inj _ _ _ _ _ q1 q2 hb1 hb2
        have := List.idxOf_lt_length_of_mem g2
        omega
      · rw [b_own _ g1] at hb1; rw [b_own _ g2] at hb2
        have := mem.inj _ _ _ _ _ q1 q2 hb1 hb2
        omega
      · rw [b_own _ g1] at hb1; rw [b_oth _ g2 n2] at hb2
        exact (own_oth _ _ _ _ _ q1 hb1 q2 hb2).elim
      · rw [b_oth _ g1 n1] at hb1; rw [b_ks _ g2] at hb2
        exact (ks_oth _ _ _ _ _ g2 q2 hb2 g1 q1 hb1).elim
      · rw [b_oth _ g1 n1] at hb1; rw [b_own _ g2] at hb2
        exact (own_oth _ _ _ _ _ q2 hb2 q1 hb1).elim
      · rw [b_oth _ g1 n1] at hb1; rw [b_oth _ g2 n2] at hb2
        exact h.mem.inj _ _ _ _ _ q1 q2 hb1 hb2
  have wsz : w.heap.size ≤ w'.heap.size := frm.sz
  refine ⟨bl2, mv, mem2, ⟨Nat.le_trans h.frm.sz wsz, fun b hb hR => ?_, fun k o b hm hb => ?_, fun b hb => frm.st0 b (h.frm.st0 b hb), fun b hb => ?_, frm.os.trans h.frm.os, frm.tape.trans h.frm.tape, frm.output.trans h.frm.output, fun k cs hm h1 h2 => ?_⟩, RelV.ren hren (fun _ _ => trivial) (.inl hclean.2) hr⟩
  · refine (keeps b (Nat.lt_of_lt_of_le hb h.frm.sz) fun k0 o0 _ hm hb0 => ?_).trans (h.frm.pres b hb hR)
    rcases h.frm.own k0 o0 b hm hb0 with h1 | ⟨_, _, h1, _⟩
    · omega
    · exact hR h1
  · rcases sort k o hm with ⟨hk, o1, ho1, _⟩ | ⟨j, rfl, hj, o1, ho1, _⟩ | ⟨hk, hno, o1, ho1, _⟩
    · rw [b_ks k hk] at hb
      rcases ksblk k o1 b hk ho1 hb with h1 | h1
      · exact .inl (Nat.le_trans h.frm.sz h1)
      · obtain ⟨o3, ho3⟩ := Option.isSome_iff_exists.1 (hs k hk)
        exact h.frm.own k o3 b ho3 h1
    · rw [b_own j hj] at hb
      exact .inl (Nat.le_trans h.frm.sz (ownblk j o1 b ho1 hb))
    · rw [b_oth k hk hno] at hb
      exact h.frm.own k o1 b ho1 hb
  · rcases frm.st b hb with h1 | h1
    · exact h.frm.st b h1
    · exact .inr (Nat.le_trans h.frm.sz h1)
  · have hbox : ∃ o0, s.M k = some o0 := by
      rcases sort k _ hm with ⟨hk, o1, ho1, e⟩ | ⟨j, rfl, hj, o1, ho1, e⟩ | ⟨hk, hno, o1, ho1, e⟩
      · exact Option.isSome_iff_exists.1 (hs k hk)
      · omega
      · exact ⟨o1, ho1⟩
    obtain ⟨o0, ho0⟩ := hbox
    rw [(mv.key k _ (by simp [callX]) ho0).2]
    exact h.frm.rb k o0 ho0 h1 h2
end
end Go.Pw

namespace Go.Pw
open Go
structure Tr where
  W : List Nat
  R : List Nat
def obKeys (M : Mm) (k : Nat) : List Nat := match M k with | some o => o.keys | none => []
def S.app (s : S) (dst : Option Tmp) (v : AV) (X : List Nat) (M : Mm) : S :=
  match dst with
  | some d => ⟨upd (fun t => scr X (s.tm t)) d v, M⟩
  | none => ⟨fun t => scr X (s.tm t), M⟩
def opKeys (s : S) (o : Oper) : List Nat := o.op.operands.toList.flatMap fun x => (eval s x).keys
def trOf (s : S) (o : Oper) (v : AV) (W R : List Nat) (M : Mm) : Tr := ⟨W, (opKeys s o ++ R) ++ ((opKeys s o ++ R) ++ W).flatMap (obKeys s.M) ++ v.keys ++ W.flatMap (obKeys M)⟩
def dOf' (o : Oper) : Nat := o.dst.getD 999
def callArgs (s : S) (ks : List Nat) (c : Call) (caps : List (Nat × Nat × Nat)) : List AV :=
  (c.args.toList.map (fun x => toArg s ks (eval s x))) ++ caps.map (fun c => toArg s ks (.ptr c.1 c.2.1 c.2.2))
def ownKeys (d : Nat) (OW : List Ob) : List Nat := (List.range OW.length).map fun j => 2000 + 8 * d + j
def stepOp (P : Program) (T : Tab) (o : Oper) (s : S) (K : S → Tr → Prop) : Prop :=
  match o.op with
  | .call c => match c.callee with
    | .value f => match eval s f with
      | .fn fid caps => ∃ ks kw r Ms' OW, (∀ k ∈ kw, k ∈ ks) ∧ (∀ k ∈ ks, k ∉ kw → callM s ks (dOf' o) Ms' OW k = s.M k) ∧ callOk s ks (dOf' o) OW ∧ C P fid (callArgs s ks c caps) (callMs s ks) r Ms' OW ∧
          K (s.app o.dst (r.ren (rb ks (dOf' o))) (callX s ks) (callM s ks (dOf' o) Ms' OW)) (trOf s o (r.ren (rb ks (dOf' o))) (kw ++ ownKeys (dOf' o) OW) ks (callM s ks (dOf' o) Ms' OW))
      | _ => False
    | _ => match out T s o.op (dOf' o) with
      | some u => u.ob ∧ K (s.app o.dst u.v u.X u.M) (trOf s o u.v u.W u.R u.M)
      | none => False
  | _ => match out T s o.op (dOf' o) with
    | some u => u.ob ∧ K (s.app o.dst u.v u.X u.M) (trOf s o u.v u.W u.R u.M)
    | none => False
def offV (want : Bool) (v : AV) : Prop := v = .d (.lit (.bool !want)) ∨ v = .tup []
def guardOf (ops : Array Oper) (g : Nat) : Option Tmp := (ops[g]?).bind (·.dst)
def step (P : Program) (T : Tab) (n : Nat) (ops : Array Oper) (o : Oper) (s : S) (K : S → Tr → Prop) : Prop :=
  (match o.dst with | some d => d < n | none => True) ∧
  match o.guard with
  | none => stepOp P T o s K
  | some (g, want) => match guardOf ops g with
    | some t => match s.tm t with
      | .d (.lit (.bool b)) => (b = want → stepOp P T o ⟨upd s.tm t (.d (.lit (.bool want))), s.M⟩ K) ∧
          (b = !want → K (S.app ⟨upd s.tm t (.d (.lit (.bool !want))), s.M⟩ o.dst (.tup []) [] s.M) ⟨[], []⟩)
      | .tup [] => K (S.app s o.dst (.tup []) [] s.M) ⟨[], []⟩
      | _ => False
    | none => False
theorem stepOp_ex {P : Program} {T : Tab} {o : Oper} {s : S} {K : S → Tr → Prop} (h : stepOp P T o s K) : ∃ s' tr, stepOp P T o s (fun s1 t1 => s1 = s' ∧ t1 = tr) ∧ K s' tr := by
  unfold stepOp at h ⊢
  split at h
  · split at h
    · split at h
      · obtain ⟨ks, kw, r, Ms', OW, g1, g2, h1, h2, h3⟩ := h
        exact ⟨_, _, ⟨ks, kw, r, Ms', OW, g1, g2, h1, h2, rfl, rfl⟩, h3⟩
      · exact h.elim
    · split at h
      · exact ⟨_, _, ⟨h.1, rfl, rfl⟩, h.2⟩
      · exact h.elim
  · split at h
    · exact ⟨_, _, ⟨h.1, rfl, rfl⟩, h.2⟩
    · exact h.elim
theorem upd_self {α : Type} (f : Nat → α) (k : Nat) {v : α} (h : f k = v) : upd f k v = f := by
  funext x; by_cases e : x = k <;> simp [upd, e, h]
theorem step_ex {P : Program} {T : Tab} {n : Nat} {ops : Array Oper} {o : Oper} {s : S} {K : S → Tr → Prop} (h : step P T n ops o s K) : ∃ s' tr, step P T n ops o s (fun s1 t1 => s1 = s' ∧ t1 = tr) ∧ K s' tr := by
  unfold step at h ⊢
  obtain ⟨hd, h⟩ := h
  split at h
  · obtain ⟨s', tr, h1, h2⟩ := stepOp_ex h
    exact ⟨s', tr, ⟨hd, h1⟩, h2⟩
  · rename_i g want hg
    split at h
    · rename_i t ht
      split at h
      · rename_i b hb
        cases b <;> cases want
        · obtain ⟨s', tr, h1, h2⟩ := stepOp_ex (h.1 rfl)
          exact ⟨s', tr, ⟨hd, fun _ => h1, fun e => by cases e⟩, h2⟩
        · exact ⟨_, _, ⟨hd, (fun e => by cases e), fun _ => ⟨rfl, rfl⟩⟩, h.2 rfl⟩
        · exact ⟨_, _, ⟨hd, (fun e => by cases e), fun _ => ⟨rfl, rfl⟩⟩, h.2 rfl⟩
        · obtain ⟨s', tr, h1, h2⟩ := stepOp_ex (h.1 rfl)
          exact ⟨s', tr, ⟨hd, fun _ => h1, fun e => by cases e⟩, h2⟩
      · exact ⟨_, _, ⟨hd, rfl, rfl⟩, h⟩
      · exact h.elim
    · exact h.elim
def Step (P : Program) (T : Tab) (n : Nat) (ops : Array Oper) (o : Oper) (s s' : S) (tr : Tr) : Prop := step P T n ops o s (fun s1 t1 => s1 = s' ∧ t1 = tr)
theorem step_cases {P : Program} {T : Tab} {n : Nat} {ops : Array Oper} {o : Oper} {s s' : S} {tr : Tr} (h : Step P T n ops o s s' tr) :
    (∀ d, o.dst = some d → d < n) ∧
    ((∃ g want t, o.guard = some (g, want) ∧ guardOf ops g = some t ∧ offV want (s.tm t) ∧ s' = s.app o.dst (.tup []) [] s.M ∧ tr = ⟨[], []⟩) ∨
     ((o.guard = none ∨ ∃ g want t, o.guard = some (g, want) ∧ guardOf ops g = some t ∧ s.tm t = .d (.lit (.bool want))) ∧ stepOp P T o s (fun s1 t1 => s1 = s' ∧ t1 = tr))) := by
  unfold Step step at h
  obtain ⟨hd, h⟩ := h
  refine ⟨fun d hdd => by rw [hdd] at hd; exact hd, ?_⟩
  split at h
  · exact .inr ⟨.inl ‹_›, h⟩
  · rename_i g want hg
    split at h
    · rename_i t ht
      split at h
      · rename_i b hb
        by_cases e : b = want
        · subst e
          have := h.1 rfl
          rw [upd_self s.tm t hb] at this
          exact .inr ⟨.inr ⟨g, b, t, hg, ht, hb⟩, this⟩
        · have e' : b = !want := by cases b <;> cases want <;> simp_all
          subst e'
          have := h.2 rfl
          rw [upd_self s.tm t hb] at this
          exact .inl ⟨g, want, t, hg, ht, .inl hb, this.1.symm, this.2.symm⟩
      · rename_i hb
        exact .inl ⟨g, want, t, hg, ht, .inr hb, h.1.symm, h.2.symm⟩
      · exact h.elim
    · exact h.elim
theorem step_skip_of {P : Program} {T : Tab} {n : Nat} {ops : Array Oper} {o : Oper} {s : S} (hd : ∀ d, o.dst = some d → d < n) {g t : Nat} {want : Bool} (hg : o.guard = some (g, want)) (ht : guardOf ops g = some t) (hb : offV want (s.tm t)) :
    Step P T n ops o s (s.app o.dst (.tup []) [] s.M) ⟨[], []⟩ := by
  unfold Step step
  refine ⟨by split <;> first | exact hd _ ‹_› | trivial, ?_⟩
  rcases hb with hb | hb
  · rw [hg]; dsimp only; rw [ht]; dsimp only; rw [hb]; dsimp only
    refine ⟨fun e => (by cases want <;> cases e), fun _ => ?_⟩
    rw [upd_self s.tm t hb]
    exact ⟨rfl, rfl⟩
  · rw [hg]; dsimp only; rw [ht]; dsimp only; rw [hb]; exact ⟨rfl, rfl⟩
theorem step_op_of {P : Program} {T : Tab} {n : Nat} {ops : Array Oper} {o : Oper} {s s' : S} {tr : Tr} (hd : ∀ d, o.dst = some d → d < n) (hg : o.guard = none ∨ ∃ g want t, o.guard = some (g, want) ∧ guardOf ops g = some t ∧ s.tm t = .d (.lit (.bool want)))
    (h : stepOp P T o s (fun s1 t1 => s1 = s' ∧ t1 = tr)) : Step P T n ops o s s' tr := by
  unfold Step step
  refine ⟨by split <;> first | exact hd _ ‹_› | trivial, ?_⟩
  rcases hg with hg | ⟨g, want, t, hg, ht, hb⟩
  · rw [hg]; exact h
  · rw [hg]; dsimp only; rw [ht]; dsimp only; rw [hb]; dsimp only
    refine ⟨fun _ => ?_, fun e => (by cases want <;> cases e)⟩
    rw [upd_self s.tm t hb]
    exact h
section
variable {P : Program} {T : Tab} {cx : Ctx} {ops : Array Oper} {Q : Exit → Act → World → Prop}
theorem app_ok {o : Oper} {s : S} {a : Act} {w : World} {St : Nat → Prop} {bl : Lc} (h : Sim1 cx s a w St bl) (hd : ∀ d, o.dst = some d → d < cx.n) {v : AV} {X : List Nat} {M : Mm} {u : Value} {w' : World} {St' : Nat → Prop} {bl' : Lc}
    (mv : Mv w St s.M bl w' St' M bl' (· ∈ X)) (mem : Mem w' St' M bl') (frm : Frm cx w' St' M bl') (hv : RelV w' St' M bl' v u) : Sim cx (s.app o.dst v X M) (a.put o.dst u) w' := by
  cases ho : o.dst with
  | none => exact ⟨St', bl', h.step0 mv mem frm⟩
  | some d => exact ⟨St', bl', h.step mv mem frm (hd d ho) hv⟩
theorem stepOp_sound (hT : TyOk P T) {o : Oper} {s s' : S} {tr : Tr} (hn : cx.n ≤ 999) (hd : ∀ d, o.dst = some d → d < cx.n) (h : stepOp P T o s (fun s1 t1 => s1 = s' ∧ t1 = tr)) {a : Act} {w : World} (hs : Sim cx s a w) {K : Act → World → Prop}
    (hK : ∀ a' w', Sim cx s' a' w' → K a' w') : o.wp P a w K Q := by
  obtain ⟨St, bl, h1⟩ := hs
  have hdn : dOf' o < 1000 := by
    unfold dOf'
    cases ho : o.dst with
    | none => exact (by decide : (999 : Nat) < 1000)
    | some d => have h2 : (d : Nat) < cx.n := hd d ho; show (d : Nat) < 1000; exact Nat.lt_of_lt_of_le h2 (Nat.le_trans hn (by decide))
  have plain : ∀ u, out T s o.op (dOf' o) = some u → u.ob → s' = s.app o.dst u.v u.X u.M → o.wp P a w K Q := by
    intro u hu hob he
    obtain ⟨nx, v, w', St', bl', hr, hnx, mv, mem, frm, hv⟩ := out_ok hT h1 hdn hu hob
    unfold Oper.wp
    rw [hr]
    rcases hnx with rfl | ⟨rfl, rfl⟩
    · exact hK _ _ (he ▸ app_ok h1 hd mv mem frm hv)
    · exact hK _ _ (he ▸ app_ok h1 hd mv mem frm hv)
  unfold stepOp at h
  split at h
  · rename_i c hc
    split at h
    · rename_i f hf
      split at h
      · rename_i fid caps he
        obtain ⟨ks, kw, r, Ms', OW, _, _, hok, hC, rfl, rfl⟩ := h
        have hfv0 := eval_rel h1 f
        rw [he] at hfv0
        obtain ⟨cvs, hfv, hcaps⟩ := (show RelC w St s.M bl (.fn fid caps) (a.eval f) from hfv0)
        obtain ⟨fn, hfn1, hfn2, hfn3⟩ := hC.fn
        have hrun : (execOp a.eval o).run P w = .ok (.enter fid ((c.args.map a.eval) ++ cvs.toArray)) w := by
          simp only [execOp, hc, resolve, hf, hfv]
          have e2 : ¬ fn.name = "runtime.NumGoroutine" := by simpa using hfn2
          have e3 : ¬ fn.body = none := by intro h; rw [h] at hfn3; cases hfn3
          simp [Deferred.ofValue, invoke, callFunc, hfn1, e2, e3]
        unfold Oper.wp
        rw [hrun]
        have hargs : All2 (RelV w St (rootM (callMs s ks)) (callBl bl ks)) (callArgs s ks c caps) ((c.args.map a.eval).toList ++ cvs) := by
          unfold callArgs
          refine all2_append ?_ ?_
          · rw [Array.toList_map]
            generalize c.args.toList = l
            induction l with
            | nil => exact .nil
            | cons x l ih => exact .cons (toArg_rel h1 hok (eval_rel h1 x)) ih
          · clear hfv0 hrun hC hfv he hf hc
            induction hcaps with
            | nil => exact .nil
            | cons hr _ ih => exact .cons (toArg_rel h1 hok (RelV.of_c (x := .ptr ..) hr)) ih
        have hcall := hC.calls w St (callBl bl ks) _ (call_mem h1 hok) hargs
        have he2 : ((c.args.map a.eval).toList ++ cvs).toArray = (c.args.map a.eval) ++ cvs.toArray := by simp
        rw [he2] at hcall
        refine hcall.mono fun e w' ⟨v, St', bl', hev, mem, hr, frm⟩ => ?_
        subst hev
        obtain ⟨bl2, mv2, mem2, frm2, hv2⟩ := call_env h1 hok hC.kind hC.clean hC.rows mem hr frm
        exact hK _ _ (app_ok h1 hd mv2 mem2 frm2 hv2)
      · exact h.elim
    · split at h
      · rename_i u hu
        exact plain u hu h.1 h.2.1.symm
      · exact h.elim
  · split at h
    · rename_i u hu
      exact plain u hu h.1 h.2.1.symm
    · exact h.elim
theorem wanted_rel {o : Oper} {s : S} {a : Act} {w : World} (hs : Sim cx s a w) {g t : Nat} {want b : Bool} (hg : o.guard = some (g, want)) (ht : guardOf ops g = some t) (hb : s.tm t = .d (.lit (.bool b))) :
    Region.wanted o (yielded ops a.tmps) = (b == want) := by
  obtain ⟨St, bl, h1⟩ := hs
  have h2 := h1.tm t
  rw [hb] at h2
  obtain ⟨h3, _⟩ := lit_eq h2
  have hy : yielded ops a.tmps g = some b := by
    unfold yielded
    unfold guardOf at ht
    rw [ht]
    rw [Array.getD_eq_getD_getElem?] at h3
    cases h4 : a.tmps[t]? with
    | none => rw [h4] at h3; simp [undef] at h3
    | some v => rw [h4] at h3; simp at h3; subst h3; simp [h4]
  unfold Region.wanted
  rw [hg]
  simp only [hy]
  cases b <;> cases want <;> rfl
theorem wanted_off {o : Oper} {s : S} {a : Act} {w : World} (hs : Sim cx s a w) {g t : Nat} {want : Bool} (hg : o.guard = some (g, want)) (ht : guardOf ops g = some t) (hb : offV want (s.tm t)) :
    Region.wanted o (yielded ops a.tmps) = false := by
  rcases hb with hb | hb
  · rw [wanted_rel hs hg ht hb]; cases want <;> rfl
  · obtain ⟨St, bl, h1⟩ := hs
    have h2 := h1.tm t
    rw [hb] at h2
    obtain ⟨vs, h3, h4⟩ := h2
    cases h4
    have hy : yielded ops a.tmps g = none := by
      unfold yielded
      unfold guardOf at ht
      rw [ht]
      rw [Array.getD_eq_getD_getElem?] at h3
      cases h5 : a.tmps[t]? with
      | none => simp [h5]
      | some v => rw [h5] at h3; simp at h3; subst h3; simp [h5]
    unfold Region.wanted
    rw [hg]
    simp only [hy]
    cases want <;> rfl
theorem step_sound (hT : TyOk P T) (hn : cx.n ≤ 999) {i : Nat} {o : Oper} (hi : ops[i]? = some o) {s s' : S} {tr : Tr} (h : Step P T cx.n ops o s s' tr) {a : Act} {w : World} (hs : Sim cx s a w) {K : Act → World → Prop}
    (hK : ∀ a' w', Sim cx s' a' w' → K a' w') : wpOp P ops Q i K a w := by
  obtain ⟨hd, h⟩ := step_cases h
  unfold wpOp
  simp only [hi]
  rcases h with ⟨g, want, t, hg, ht, hb, rfl, rfl⟩ | ⟨hg, h⟩
  · rw [wanted_off hs hg ht hb]
    simp only [Bool.false_eq_true, if_false]
    obtain ⟨St, bl, h1⟩ := hs
    exact hK _ _ (app_ok h1 hd (Mv.refl ..) h1.mem h1.frm ⟨[], rfl, .nil⟩)
  · have hw : Region.wanted o (yielded ops a.tmps) = true := by
      rcases hg with hg | ⟨g, want, t, hg, ht, hb⟩
      · unfold Region.wanted; rw [hg]
      · rw [wanted_rel hs hg ht hb]; simp
    rw [hw]
    simp only [if_true]
    exact .inl (stepOp_sound hT hn hd h hs hK)
inductive Chain (P : Program) (T : Tab) (n : Nat) (ops : Array Oper) : List (Nat × Tr) → S → S → Prop
  | nil (s : S) : Chain P T n ops [] s s
  | cons {i : Nat} {o : Oper} {tr : Tr} {l : List (Nat × Tr)} {s s1 s2 : S} (hi : ops[i]? = some o) (h : Step P T n ops o s s1 tr) (t : Chain P T n ops l s1 s2) : Chain P T n ops ((i, tr) :: l) s s2
theorem chain_sound (hT : TyOk P T) (hn : cx.n ≤ 999) {l : List (Nat × Tr)} {s s' : S} (h : Chain P T cx.n ops l s s') : ∀ {a : Act} {w : World}, Sim cx s a w → (∀ a' w', Sim cx s' a' w' → Q .normal a' w') → wpOps P ops Q (l.map (·.1)) a w := by
  induction h with
  | nil s => intro a w hs hQ; exact hQ a w hs
  | cons hi h t ih =>
    intro a w hs hQ
    rw [List.map_cons, wpOps_cons]
    exact step_sound hT hn hi h hs fun a' w' hs' => ih hs' hQ
end
end Go.Pw

namespace Go.Pw
open Go
def Fr (T : Tab) (s s' : S) (op : Op) (d : Nat) (u : Out) : Prop :=
  ∃ u', out T s' op d = some u' ∧ u'.v = u.v ∧ u'.X = u.X ∧ u'.W = u.W ∧ u'.R = u.R ∧ (u.ob → u'.ob) ∧ (∀ k, k ∈ u.W → u'.M k = u.M k) ∧ (∀ k, k ∉ u.W → u.M k = (s.M k).map (Ob.scr u.X) ∧ u'.M k = (s'.M k).map (Ob.scr u.X)) ∧ ∀ k, k ∈ u.X → k ∈ u.W
theorem map_scr_nil (o : Option Ob) : o.map (Ob.scr []) = o := by cases o <;> simp [Ob.scr_nil]
theorem fr_pure {T : Tab} {s s' : S} {op : Op} {d : Nat} {v : AV} {R : List Nat} {ob : Prop} (h : out T s' op d = some (pureO s' v R ob)) : Fr T s s' op d (pureO s v R ob) :=
  ⟨_, h, rfl, rfl, rfl, rfl, id, fun k hk => by simp [pureO] at hk, fun k _ => ⟨(map_scr_nil _).symm, (map_scr_nil _).symm⟩, fun k hk => hk⟩
theorem fr_new {T : Tab} {s s' : S} {op : Op} {d : Nat} {v : AV} {R : List Nat} {ob ob' : Prop} {o : Ob} (h : out T s' op d = some ⟨v, [], upd s'.M d (some o), [d], R, ob'⟩) (hob : ob → ob') : Fr T s s' op d ⟨v, [], upd s.M d (some o), [d], R, ob⟩ :=
  ⟨_, h, rfl, rfl, rfl, rfl, hob, fun k hk => by simp at hk; subst hk; simp [upd_same], fun k hk => by
    have hk' : k ≠ d := by simpa using hk
    simp only [upd_ne _ _ hk']; exact ⟨(map_scr_nil _).symm, (map_scr_nil _).symm⟩, fun k hk => by simp at hk⟩
section
variable {T : Tab} {s s' : S} {d : Nat} {u : Out}
theorem fr_put {op : Op} {k : Nat} {v : AV} {R : List Nat} {ob ob' : Prop} {o : Ob} (h : out T s' op d = some ⟨v, [], upd s'.M k (some o), [k], R, ob'⟩) (hob : ob → ob') : Fr T s s' op d ⟨v, [], upd s.M k (some o), [k], R, ob⟩ :=
  ⟨_, h, rfl, rfl, rfl, rfl, hob, fun k2 hk2 => by simp at hk2; subst hk2; simp [upd_same], fun k2 hk2 => by
    have hk' : k2 ≠ k := by simpa using hk2
    simp only [upd_ne _ _ hk']; exact ⟨(map_scr_nil _).symm, (map_scr_nil _).symm⟩, fun k2 hk2 => by simp at hk2⟩
theorem elems_fr {x : AV} {es : List (List D)} (h : elemsOf s x = some es) (hM : ∀ k, k ∈ x.keys → s'.M k = s.M k) : elemsOf s' x = some es := by
  cases x with
  | ref k lo len =>
    have := hM k (by simp [AV.keys, AV.keys2, AV.keys1])
    simp only [elemsOf, this] at h ⊢
    exact h
  | d x => cases x <;> exact h
  | _ => exact h
theorem cells_keys {x : AV} {cs : List AV} (h : x.cells = some cs) : ∀ c ∈ cs, ∀ k ∈ c.keys1, k ∈ x.keys := by
  unfold AV.cells at h
  split at h
  · split at h
    · cases h
    · cases h; intro c hc k hk; exact List.mem_flatMap.2 ⟨c, hc, hk⟩
  · split at h
    · cases h
    · cases h
      rename_i hu
      intro c hc k hk
      simp at hc; subst hc
      cases c <;> first | exact hk | (simp [AV.keys1] at hk) | (simp [AV.isU] at hu)
theorem frz_fr : ∀ {cs : List AV} {r : List D × List Nat}, frz s cs = some r → (∀ k, k ∈ r.2 → s'.M k = s.M k) → frz s' cs = some r
  | [], r, h, _ => h
  | c :: cs, r, h, hM => by
    simp only [frz] at h ⊢
    split at h
    · rename_i a k as ks h1 h2
      cases h
      have e2 := frz_fr h2 fun k' hk' => hM k' (List.mem_append_right _ hk')
      have e1 : frz1 s' c = some (a, k) := by
        cases c with
        | ref k2 lo len =>
          simp only [frz1] at h1 ⊢
          split at h1
          · rename_i sz es hm
            cases h1
            rw [hM k2 (by simp), hm]
          · cases h1
        | _ => exact h1
      rw [e1, e2]
    · cases h
theorem fr_row {op : Op} {k : Nat} {Y R : List Nat} {v : AV} {ob ob' : Prop} {o : Ob} (h : out T s' op d = some ⟨v, Y, upd (dropM Y s'.M) k (some o), k :: Y, R, ob'⟩) (hob : ob → ob') : Fr T s s' op d ⟨v, Y, upd (dropM Y s.M) k (some o), k :: Y, R, ob⟩ := by
  refine ⟨_, h, rfl, rfl, rfl, rfl, hob, fun k2 hk => ?_, fun k2 hk => ?_, fun k2 hk => List.mem_cons_of_mem _ hk⟩
  · dsimp only at hk ⊢
    by_cases e : k2 = k
    · subst e; rw [upd_same, upd_same]
    · rw [upd_ne _ _ e, upd_ne _ _ e]
      have : k2 ∈ Y := by
        rcases List.mem_cons.1 hk with h1 | h1
        · exact absurd h1 e
        · exact h1
      unfold dropM
      rw [if_pos (by simpa using this), if_pos (by simpa using this)]
  · dsimp only at hk ⊢
    have e : k2 ≠ k := fun e => hk (by simp [e])
    have e2 : k2 ∉ Y := fun e => hk (List.mem_cons_of_mem _ e)
    rw [upd_ne _ _ e, upd_ne _ _ e]
    unfold dropM
    rw [if_neg (by simpa using e2), if_neg (by simpa using e2)]
    exact ⟨rfl, rfl⟩
theorem bound_fr {n : Int} {o : Option Operand} (h : ∀ x, o = some x → eval s' x = eval s x) : bound s' n o = bound s n o := by
  cases o with
  | none => rfl
  | some x => simp only [bound, h x rfl]
theorem out_fr {op : Op} (hu : out T s op d = some u) (He : ∀ x, x ∈ op.operands.toList → eval s' x = eval s x)
    (HM : ∀ k, (k ∈ u.R ∨ k ∈ u.W ∨ ∃ x, x ∈ op.operands.toList ∧ k ∈ (eval s x).keys) → s'.M k = s.M k) : Fr T s s' op d u := by
  cases op with
  | move x =>
    have e := He x (by simp [Op.operands])
    simp only [out, Option.some.injEq] at hu; subst hu
    exact fr_pure (by simp only [out, e])
  | assign x =>
    have e := He x (by simp [Op.operands])
    simp only [out, Option.some.injEq] at hu; subst hu
    exact fr_pure (by simp only [out, e])
  | pick c x y =>
    have e1 := He c (by simp [Op.operands]); have e2 := He x (by simp [Op.operands]); have e3 := He y (by simp [Op.operands])
    simp only [out] at hu
    split at hu
    · rename_i t hc
      simp only [Option.some.injEq] at hu; subst hu
      exact fr_pure (by simp only [out, e1, e2, e3, hc])
    · cases hu
  | alloc t =>
    simp only [out] at hu
    cases ht : T t with
    | none => rw [ht] at hu; cases hu
    | some ti =>
      rw [ht] at hu; simp only [Option.map_some, Option.some.injEq] at hu; subst hu
      exact fr_new (ob' := s'.M d = none) (by simp only [out, ht, Option.map_some]) (fun h => by rw [HM d (.inr (.inl (by simp)))]; exact h)
  | box t x =>
    have e := He x (by simp [Op.operands])
    simp only [out] at hu
    split at hu
    · rename_i ti cs ht hc
      simp only [Option.some.injEq] at hu; subst hu
      exact fr_new (ob' := s'.M d = none ∧ cs.length = ti.size) (by simp only [out, e, ht, hc]) (fun h => by rw [HM d (.inr (.inl (by simp)))]; exact h)
    · cases hu
  | build t ps =>
    have e : ps.toList.map (fun p => (p.1, eval s' p.2)) = ps.toList.map (fun p => (p.1, eval s p.2)) := List.map_congr_left fun p hp => by
      rw [He p.2 (by simp only [Op.operands]; simp; exact ⟨p.1, by simpa using hp⟩)]
    have e2 : ps.toList.map (fun p => (eval s' p.2).keys) = ps.toList.map (fun p => (eval s p.2).keys) := List.map_congr_left fun p hp => by
      rw [He p.2 (by simp only [Op.operands]; simp; exact ⟨p.1, by simpa using hp⟩)]
    simp only [out] at hu
    split at hu
    · rename_i ti ht
      split at hu
      · rename_i fs hds
        simp only [Option.map_eq_some_iff] at hu
        obtain ⟨cs, hf, rfl⟩ := hu
        exact fr_pure (by simp only [out, ht, hds, e, e2, hf, Option.map_some])
      · cases hu
    · cases hu
  | buildSlice t n ps =>
    have e : ps.toList.map (fun p => (p.1, eval s' p.2)) = ps.toList.map (fun p => (p.1, eval s p.2)) := List.map_congr_left fun p hp => by
      rw [He p.2 (by simp only [Op.operands]; simp; exact ⟨p.1, by simpa using hp⟩)]
    have e2 : ps.toList.map (fun p => (eval s' p.2).keys) = ps.toList.map (fun p => (eval s p.2).keys) := List.map_congr_left fun p hp => by
      rw [He p.2 (by simp only [Op.operands]; simp; exact ⟨p.1, by simpa using hp⟩)]
    simp only [out] at hu
    split at hu
    case h_2 => cases hu
    rename_i ti ht
    split at hu
    case h_2 => cases hu
    rename_i el hds
    split at hu
    case h_2 => cases hu
    rename_i te hte
    split at hu
    case h_2 => cases hu
    rename_i cs hf
    split at hu
    case h_2 => cases hu
    rename_i ds Y hfz
    simp only [Option.some.injEq] at hu; subst hu
    have hfz' := frz_fr (s' := s') hfz fun k hk => HM k (.inr (.inl (List.mem_cons_of_mem _ hk)))
    exact fr_row (ob' := s'.M d = none ∧ (∀ y ∈ Y, ¬ (1000 ≤ y ∧ y < 2000)) ∧ 0 < te.size ∧ n * te.size ≤ 16777216 ∧ ds.length = n * te.size) (by simp only [out, ht, hds, hte, e, e2, hf, hfz']) (fun h => by rw [HM d (.inr (.inl (by simp)))]; exact h)
  | load t x =>
    have e := He x (by simp [Op.operands])
    simp only [out] at hu ⊢
    unfold loadO at hu
    split at hu
    case h_3 => cases hu
    case h_1 ti k i off ht he =>
      have hk := HM k (.inr (.inr ⟨x, by simp [Op.operands], by rw [he]; simp [AV.keys, AV.keys2, AV.keys1]⟩))
      split at hu
      · rename_i cs hm
        simp only [Option.some.injEq] at hu; subst hu
        exact fr_pure (by simp only [out, e, loadO, ht, he, hk, hm])
      · rename_i sz es hm
        simp only [Option.some.injEq] at hu; subst hu
        exact fr_pure (by simp only [out, e, loadO, ht, he, hk, hm])
      · cases hu
      · cases hu
    case h_2 ti cs ht he =>
      simp only [Option.some.injEq] at hu; subst hu
      exact fr_pure (by simp only [out, e, loadO, ht, he])
  | store t x y =>
    have e1 := He x (by simp [Op.operands]); have e2 := He y (by simp [Op.operands])
    simp only [out] at hu
    unfold storeO at hu
    split at hu
    case h_2 => cases hu
    rename_i ti k i off vs ht he hc
    have hk := HM k (.inr (.inr ⟨x, by simp [Op.operands], by rw [he]; simp [AV.keys, AV.keys2, AV.keys1]⟩))
    split at hu
    · rename_i cs hm
      simp only [Option.some.injEq] at hu; subst hu
      refine ⟨⟨.undef, [], upd s'.M k (some (Ob.box (splice cs off vs))), [k], k :: (eval s y).keys, i = 0 ∧ vs.length = ti.size ∧ off + vs.length ≤ cs.length⟩, ?_, rfl, rfl, rfl, rfl, id, fun k2 hk2 => ?_, fun k2 hk2 => ?_, fun k2 hk2 => by simp at hk2⟩
      · simp only [out, e1, e2, storeO, ht, he, hc, hk, hm]
      · have : k2 = k := by simpa using hk2
        subst this; simp only [upd_same]
      · have : k2 ≠ k := by simpa using hk2
        simp only [upd_ne _ _ this]; exact ⟨(map_scr_nil _).symm, (map_scr_nil _).symm⟩
    · rename_i sz es hm
      split at hu
      · rename_i ds Y hfz
        simp only [Option.some.injEq] at hu; subst hu
        have hfz' := frz_fr (s' := s') hfz fun k hk => HM k (.inr (.inl (List.mem_cons_of_mem _ hk)))
        exact fr_row (ob' := k ∉ Y ∧ (∀ y ∈ Y, ¬ (1000 ≤ y ∧ y < 2000)) ∧ i < es.length ∧ ds.length = ti.size ∧ off + ds.length ≤ (es.getD i []).length) (by simp only [out, e1, e2, storeO, ht, he, hc, hk, hm, hfz']) id
      · cases hu
    · cases hu
    · cases hu
  | nilCheck x =>
    have e := He x (by simp [Op.operands])
    simp only [out] at hu
    split at hu
    · rename_i k i off he
      simp only [Option.some.injEq] at hu; subst hu
      exact fr_pure (by simp only [out, e, he])
    · rename_i cs he
      simp only [Option.some.injEq] at hu; subst hu
      exact fr_pure (by simp only [out, e, he])
    · cases hu
  | binOp op t x y t' =>
    have e1 := He x (by simp [Op.operands]); have e2 := He y (by simp [Op.operands])
    simp only [out] at hu
    split at hu
    · rename_i p q hp hq
      split at hu
      · rename_i v ob hb
        simp only [Option.some.injEq] at hu; subst hu
        exact fr_pure (by simp only [out, e1, e2, hp, hq, hb])
      · rename_i hb
        split at hu
        · rename_i ti v ht hb2
          split at hu
          · rename_i hds
            simp only [Option.some.injEq] at hu; subst hu
            exact fr_pure (by simp only [out, e1, e2, hp, hq, hb, ht, hb2, hds])
          · cases hu
        · cases hu
    · rename_i xs ys hp hq
      split at hu
      case h_2 => cases hu
      rename_i ti ht
      split at hu
      case h_2 => cases hu
      rename_i fs hds
      split at hu
      case h_2 => cases hu
      rename_i b hb
      split at hu
      case h_2 => cases hu
      rename_i v hv
      simp only [Option.some.injEq] at hu; subst hu
      exact fr_pure (by simp only [out, e1, e2, hp, hq, ht, hds, hb, hv])
    · cases hu
  | unOp op t x =>
    have e := He x (by simp [Op.operands])
    simp only [out] at hu
    split at hu
    · rename_i b hb
      simp only [Option.some.injEq] at hu; subst hu
      exact fr_pure (by simp only [out, e, hb])
    · rename_i k n hb
      simp only [Option.some.injEq] at hu; subst hu
      exact fr_pure (by simp only [out, e, hb])
    · cases hu
  | convert src dst x =>
    have e := He x (by simp [Op.operands])
    simp only [out] at hu
    split at hu
    · rename_i ts td k n hts htd he
      split at hu
      case h_2 => cases hu
      rename_i k' hd
      simp only [Option.some.injEq] at hu; subst hu
      exact fr_pure (by simp only [out, e, hts, htd, he, hd])
    · rename_i ts td hts htd hne
      split at hu
      case h_2 => cases hu
      rename_i el es hd1 hd2 hes
      split at hu
      case h_2 => cases hu
      rename_i te hte
      split at hu
      case h_2 => cases hu
      rename_i hd3
      simp only [Option.some.injEq] at hu; subst hu
      have hes' := elems_fr (s' := s') hes fun k hk => HM k (.inl hk)
      refine fr_pure ?_
      simp only [out, e, hts, htd, hd1, hd2, hes', hte, hd3]
    · cases hu
  | makeFunc f first caps =>
    cases f with
    | func f =>
      simp only [out] at hu
      split at hu
      case isFalse => cases hu
      rename_i hfirst
      split at hu
      case h_2 => cases hu
      rename_i cs hcs
      simp only [Option.some.injEq] at hu; subst hu
      have e : (caps.toList.mapM fun o => capOf (eval s' o)) = some cs := by
        rw [← hcs]
        have hq : ∀ o, o ∈ caps.toList → eval s' o = eval s o := fun o ho => He o (by simp only [Op.operands]; simp; exact .inr (by simpa using ho))
        clear hcs
        generalize caps.toList = l at hq
        induction l with
        | nil => rfl
        | cons o l ih => rw [List.mapM_cons, List.mapM_cons, hq o (by simp), ih fun o' ho' => hq o' (by simp [ho'])]
      exact fr_pure (by simp only [out, hfirst, if_true, e])
    | _ => simp [out] at hu
  | makeSlice t l c =>
    have e1 := He l (by simp [Op.operands]); have e2 := He c (by simp [Op.operands])
    simp only [out] at hu
    split at hu
    case h_2 => cases hu
    rename_i ti ht
    split at hu
    case h_2 => cases hu
    rename_i el hds
    split at hu
    case h_2 => cases hu
    rename_i te kl n kc m hte hl hc
    split at hu
    case h_2 => cases hu
    rename_i zs hzs
    simp only [Option.some.injEq] at hu; subst hu
    exact fr_new (ob' := s'.M d = none ∧ 0 < te.size ∧ 0 ≤ n ∧ m = n ∧ n * te.bytes ≤ 140737488355328 ∧ n ≤ 140737488355328) (by simp only [out, e1, e2, ht, hds, hte, hl, hc, hzs]) (fun h => by rw [HM d (.inr (.inl (by simp)))]; exact h)
  | slice t x lo hi mx =>
    have e := He x (by simp [Op.operands])
    have elo : ∀ y, lo = some y → eval s' y = eval s y := fun y hy => He y (by subst hy; simp [Op.operands])
    have ehi : ∀ y, hi = some y → eval s' y = eval s y := fun y hy => He y (by subst hy; simp [Op.operands])
    have emx : ∀ y, mx = some y → eval s' y = eval s y := fun y hy => He y (by subst hy; simp [Op.operands])
    simp only [out] at hu
    unfold sliceO at hu
    split at hu
    · rename_i bs he
      split at hu
      case h_2 => cases hu
      rename_i ti l hh ht hl hhi
      split at hu
      case h_2 => cases hu
      rename_i hds
      simp only [Option.some.injEq] at hu; subst hu
      exact fr_pure (by simp only [out, e, sliceO, he, ht, bound_fr elo, bound_fr ehi, hl, hhi, hds])
    · rename_i es he
      split at hu
      case h_2 => cases hu
      rename_i ti ht
      split at hu
      case h_2 => cases hu
      rename_i el hds
      split at hu
      case h_2 => cases hu
      rename_i te l hh hte hl hhi
      split at hu
      · simp only [Option.some.injEq] at hu; subst hu
        exact fr_pure (by simp only [out, e, sliceO, he, ht, hte, bound_fr elo, bound_fr ehi, hl, hhi, hds])
      · rename_i m
        split at hu
        case h_2 => cases hu
        rename_i m' hio hm
        simp only [Option.some.injEq] at hu; subst hu
        exact fr_pure (by simp only [out, e, sliceO, he, ht, hte, bound_fr elo, bound_fr ehi, hl, hhi, hds, emx m rfl, hm])
    · rename_i es he
      split at hu
      case h_2 => cases hu
      rename_i ti ht
      split at hu
      case h_2 => cases hu
      rename_i el hds
      split at hu
      case h_2 => cases hu
      rename_i te l hh hte hl hhi
      split at hu
      · simp only [Option.some.injEq] at hu; subst hu
        exact fr_pure (by simp only [out, e, sliceO, he, ht, hte, bound_fr elo, bound_fr ehi, hl, hhi, hds])
      · cases hu
    · rename_i k lo0 len he
      split at hu
      case h_2 => cases hu
      rename_i ti ht
      split at hu
      case h_2 => cases hu
      rename_i el hds
      split at hu
      case h_2 => cases hu
      rename_i te l hh sz es hte hl hhi hm
      split at hu
      case h_2 => cases hu
      simp only [Option.some.injEq] at hu; subst hu
      have hk := HM k (.inl (by simp [pureO]))
      exact fr_pure (by simp only [out, e, sliceO, he, ht, hte, bound_fr elo, bound_fr ehi, hl, hhi, hds, hk, hm])
    · cases hu
  | fieldAddr t x f =>
    have e := He x (by simp [Op.operands])
    simp only [out] at hu
    unfold fieldAddrO at hu
    split at hu
    case h_2 => cases hu
    rename_i ti ht
    split at hu
    case h_2 => cases hu
    rename_i fs hds
    split at hu
    case h_2 => cases hu
    rename_i off ut n hf
    split at hu
    · rename_i k i off2 he
      simp only [Option.some.injEq] at hu; subst hu
      exact fr_pure (by simp only [out, e, fieldAddrO, ht, hds, hf, he])
    · rename_i cs he
      simp only [Option.some.injEq] at hu; subst hu
      exact fr_pure (by simp only [out, e, fieldAddrO, ht, hds, hf, he])
    · cases hu
  | field t x f =>
    have e := He x (by simp [Op.operands])
    simp only [out] at hu
    split at hu
    case h_2 => cases hu
    rename_i ti cs ht he
    split at hu
    case h_2 => cases hu
    rename_i fs hds
    split at hu
    case h_2 => cases hu
    rename_i off ut n hf
    split at hu
    case h_2 => cases hu
    rename_i tu htu
    simp only [Option.some.injEq] at hu; subst hu
    exact fr_pure (by simp only [out, e, ht, he, hds, hf, htu])
  | indexAddr t x i =>
    have e1 := He x (by simp [Op.operands]); have e2 := He i (by simp [Op.operands])
    simp only [out] at hu
    unfold indexAddrO at hu
    split at hu
    case h_2 => cases hu
    rename_i ti n ht hn
    split at hu
    case h_3 => cases hu
    case h_2 =>
      rename_i m el hds
      split at hu
      case h_2 => cases hu
      rename_i te k2 j2 off hte he
      simp only [Option.some.injEq] at hu; subst hu
      exact fr_pure (by simp only [out, e1, e2, indexAddrO, ht, hn, hds, hte, he])
    rename_i el hds
    split at hu
    · rename_i te es hte he
      simp only [Option.some.injEq] at hu; subst hu
      exact fr_pure (by simp only [out, e1, e2, indexAddrO, ht, hn, hds, hte, he])
    · rename_i te es hte he
      simp only [Option.some.injEq] at hu; subst hu
      exact fr_pure (by simp only [out, e1, e2, indexAddrO, ht, hn, hds, hte, he])
    · rename_i te es hte he
      simp only [Option.some.injEq] at hu; subst hu
      exact fr_pure (by simp only [out, e1, e2, indexAddrO, ht, hn, hds, hte, he])
    · rename_i te k lo len hte he
      split at hu
      · rename_i sz es hm
        simp only [Option.some.injEq] at hu; subst hu
        have hk := HM k (.inl (by simp [pureO]))
        exact fr_pure (by simp only [out, e1, e2, indexAddrO, ht, hn, hds, hte, he, hk, hm])
      · cases hu
    · cases hu
  | index t x i =>
    have e1 := He x (by simp [Op.operands]); have e2 := He i (by simp [Op.operands])
    simp only [out] at hu
    split at hu
    case h_2 => cases hu
    rename_i ti b n ht hb hn
    split at hu
    case h_2 => cases hu
    rename_i hds
    simp only [Option.some.injEq] at hu; subst hu
    exact fr_pure (by simp only [out, e1, e2, ht, hb, hn, hds])
  | extract t j =>
    have e := He t (by simp [Op.operands])
    simp only [out] at hu
    split at hu
    case h_2 => cases hu
    rename_i vs he
    split at hu
    case h_2 => cases hu
    rename_i v hv
    simp only [Option.some.injEq] at hu; subst hu
    exact fr_pure (by simp only [out, e, he, hv])
  | call c =>
    simp only [out] at hu
    split at hu
    · rename_i x hc ha
      have e := He x (by simp only [Op.operands, Call.operands]; simp; exact .inr (by rw [← Array.mem_toList_iff, ha]; simp))
      split at hu
      case h_2 => cases hu
      rename_i t hat
      split at hu
      case h_2 => cases hu
      rename_i ti ht
      unfold lenO at hu
      split at hu <;> first | (simp only [Option.some.injEq] at hu; subst hu; exact fr_pure (by simp only [out, hc, ha, hat, ht, e, lenO, *])) | cases hu
    · rename_i x y hc ha
      have e1 := He x (by simp only [Op.operands, Call.operands]; simp; exact .inr (by rw [← Array.mem_toList_iff, ha]; simp))
      have e2 := He y (by simp only [Op.operands, Call.operands]; simp; exact .inr (by rw [← Array.mem_toList_iff, ha]; simp))
      split at hu
      case h_2 => cases hu
      rename_i t t' hat
      split at hu
      case isFalse => cases hu
      rename_i htt
      subst htt
      unfold appendO at hu
      split at hu
      case h_2 => cases hu
      rename_i ti ht
      split at hu
      case h_2 => cases hu
      rename_i el hds
      split at hu
      case h_2 => cases hu
      rename_i te ys hte hys
      split at hu
      · rename_i es he
        simp only [Option.some.injEq] at hu; subst hu
        have hys' := elems_fr (s' := s') hys fun k hk => HM k (.inl hk)
        refine fr_new (ob' := s'.M d = none ∧ 0 < te.size ∧ (es = [] ∨ ys ≠ []) ∧ (∀ e ∈ es, e.length = te.size) ∧ (∀ e ∈ ys, e.length = te.size) ∧ (es ++ ys).length * te.bytes ≤ 140737488355328 ∧ (es ++ ys).length ≤ 140737488355328) ?_ (fun h => by rw [HM d (.inr (.inl (by simp)))]; exact h)
        simp only [out, hc, ha, hat, if_true, appendO, e1, e2, ht, hds, hte, hys', he]
      · rename_i k lo len he
        split at hu
        case h_2 => cases hu
        rename_i sz es hm
        simp only [Option.some.injEq] at hu; subst hu
        have hys' := elems_fr (s' := s') hys fun k hk => HM k (.inl (List.mem_cons_of_mem _ hk))
        have hk := HM k (.inl (by simp))
        refine ⟨⟨.ref k 0 ((es.drop lo).take len ++ ys).length, [k], upd (scrM [k] s'.M) k (some (Ob.row te.size ((es.drop lo).take len ++ ys))), [k], k :: (eval s y).keys, sz = te.size ∧ 0 < te.size ∧ (∀ e ∈ ys, e.length = te.size) ∧ ((es.drop lo).take len ++ ys).length * te.bytes ≤ 140737488355328 ∧ ((es.drop lo).take len ++ ys).length ≤ 140737488355328 ∧ ¬ (1000 ≤ k ∧ k < 2000)⟩, by simp only [out, hc, ha, hat, if_true, appendO, e1, e2, ht, hds, hte, hys', he, hk, hm], rfl, rfl, rfl, rfl, id, fun k2 hk2 => ?_, fun k2 hk2 => ?_, fun k2 hk2 => hk2⟩
        · have : k2 = k := by simpa using hk2
          subst this; simp only [upd_same]
        · have : k2 ≠ k := by simpa using hk2
          simp only [upd_ne _ _ this]; exact ⟨rfl, rfl⟩
      · cases hu
    · cases hu
  | range t x =>
    have e := He x (by simp [Op.operands])
    simp only [out] at hu
    split at hu
    case h_2 => cases hu
    rename_i ti b ht he
    split at hu
    case h_2 => cases hu
    rename_i hds
    simp only [Option.some.injEq] at hu; subst hu
    exact fr_new (ob' := s'.M d = none) (by simp only [out, e, ht, he, hds]) (fun h => by rw [HM d (.inr (.inl (by simp)))]; exact h)
  | next x st =>
    have e := He x (by simp [Op.operands])
    cases st with
    | false => simp [out] at hu
    | true =>
    simp only [out] at hu
    split at hu
    case h_2 => cases hu
    rename_i k he
    have hk := HM k (.inr (.inr ⟨x, by simp [Op.operands], by rw [he]; simp [AV.keys, AV.keys2, AV.keys1]⟩))
    split at hu
    case h_2 => cases hu
    rename_i b pos hm
    split at hu
    · rename_i hlt
      simp only [Option.some.injEq] at hu; subst hu
      exact fr_put (ob' := True) (by simp only [out, e, he, hk, hm, if_pos hlt]) id
    · rename_i hlt
      simp only [Option.some.injEq] at hu; subst hu
      exact fr_pure (by simp only [out, e, he, hk, hm, if_neg hlt])
  | makeMap t r =>
    cases r with
    | some r => simp [out] at hu
    | none =>
    simp only [out, Option.some.injEq] at hu; subst hu
    exact fr_new (ob' := s'.M d = none) (by simp only [out]) (fun h => by rw [HM d (.inr (.inl (by simp)))]; exact h)
  | mapUpdate t m k v =>
    have e1 := He m (by simp [Op.operands]); have e2 := He k (by simp [Op.operands]); have e3 := He v (by simp [Op.operands])
    simp only [out] at hu
    split at hu
    case h_2 => cases hu
    rename_i ti kk kv vv ht hm hk hv
    have hM0 := HM kk (.inr (.inr ⟨m, by simp [Op.operands], by rw [hm]; simp [AV.keys, AV.keys2, AV.keys1]⟩))
    split at hu
    case h_2 => cases hu
    rename_i kt et hds
    split at hu
    case h_2 => cases hu
    rename_i tk es clock htk hM
    split at hu
    case h_2 => cases hu
    rename_i td hkd
    split at hu
    case h_2 => cases hu
    rename_i es' c' hp
    simp only [Option.some.injEq] at hu; subst hu
    exact fr_put (ob' := True) (by simp only [out, e1, e2, e3, ht, hm, hk, hv, hds, htk, hM0, hM, hkd, hp]) id
  | lookup t m k ok =>
    have e1 := He m (by simp [Op.operands]); have e2 := He k (by simp [Op.operands])
    simp only [out] at hu
    split at hu
    case h_2 => cases hu
    rename_i ti kk kv ht hm hk
    have hM0 := HM kk (.inr (.inr ⟨m, by simp [Op.operands], by rw [hm]; simp [AV.keys, AV.keys2, AV.keys1]⟩))
    split at hu
    case h_2 => cases hu
    rename_i kt et hds
    split at hu
    case h_2 => cases hu
    rename_i tk te es clock htk hte hM
    split at hu
    case h_2 => cases hu
    rename_i td z0 hkd hz
    split at hu
    case h_2 => cases hu
    rename_i v b hp
    simp only [Option.some.injEq] at hu; subst hu
    exact fr_pure (by simp only [out, e1, e2, ht, hm, hk, hds, htk, hte, hM0, hM, hkd, hz, hp])
  | _ => simp [out] at hu
end
end Go.Pw
