/- Functions of the reference: a code packed. -/
import Derived.Test.YtppebcfhhoggiaaQF40
set_option linter.unusedVariables false
set_option linter.unusedSimpArgs false
namespace Go.Pw
open Go Go.Proofs
attribute [local irreducible] runL W endD thenQ blockQ loopQ
set_option maxRecDepth 8000
set_option maxHeartbeats 8000000
def listG {α : Type} (l : List α) (g : α → ByteArray) : ByteArray := l.foldl (fun s x => s ++ g x) (numS l.length)
theorem listG_size {α : Type} (l : List α) (g : α → ByteArray) (B : Nat) (h : ∀ x ∈ l, (g x).size ≤ B) : (listG l g).size ≤ 10 + l.length * B := by
  have := foldl_size g B l (numS l.length) h
  have h2 := numS_size l.length
  unfold listG; omega
theorem listG_ex {α : Type} (l : List α) (g : α → ByteArray) : ∃ e : Nat → ByteArray, listS l.length e = listG l g ∧ ∀ i x, l[i]? = some x → e i = g x :=
  ⟨fun i => match l[i]? with | some x => g x | none => ByteArray.empty, listS_eq l g _ (fun i x hx => by simp [hx]), fun i x hx => by simp [hx]⟩
def packS (c : Cod) : ByteArray :=
  ⟨#[82, 67, 49]⟩ ++ listG c.texts textS ++ numS c.nums.length ++ numsS c.nums ++ listG c.funs fnS ++ listG c.actors actS ++ listG c.impls implS ++ listG c.makers makS ++ listG c.pats patsA
def insPk (x : Ins) : Prop := Sm x.args ∧ I64 x.op ∧ I64 x.a ∧ I64 x.b ∧ I64 x.c ∧ ∀ n ∈ x.args, I64 n
def fnPk (f : Fn) : Prop := f.name.size ≤ 1099511627776 ∧ I64 f.params ∧ I64 f.holds ∧ I64 f.regs ∧ Sm f.ins ∧ (∀ x ∈ f.ins, insPk x)
structure Cod.Pk (c : Cod) (n : Nat) : Prop where
  texts : Sm c.texts ∧ ∀ s ∈ c.texts, s.size ≤ 1099511627776
  nums : Sm c.nums ∧ ∀ x ∈ c.nums, I64 x
  funs : Sm c.funs ∧ ∀ f ∈ c.funs, fnPk f
  actors : Sm c.actors ∧ ∀ x ∈ c.actors, x.name.size ≤ 1099511627776 ∧ I64 x.states ∧ I64 x.fn
  impls : Sm c.impls ∧ ∀ x ∈ c.impls, x.name.size ≤ 1099511627776 ∧ x.for_.size ≤ 1099511627776 ∧ I64 x.fn
  makers : Sm c.makers ∧ ∀ x ∈ c.makers, x.name.size ≤ 1099511627776 ∧ x.data.size ≤ 1099511627776 ∧ I64 x.args
  pats : Sm c.pats ∧ ∀ l ∈ c.pats, Sm l ∧ ∀ x ∈ l, PatOk n x
  size : (packS c).size ≤ 1152921504606846976
theorem foldl_ge {α : Type} (g : α → ByteArray) : ∀ (l : List α) (s : ByteArray), s.size ≤ (l.foldl (fun s x => s ++ g x) s).size ∧ ∀ x ∈ l, (g x).size ≤ (l.foldl (fun s x => s ++ g x) s).size
  | [], s => ⟨Nat.le_refl _, fun x h => nomatch h⟩
  | y :: l, s => by
    obtain ⟨h1, h2⟩ := foldl_ge g l (s ++ g y)
    rw [List.foldl_cons]
    have h3 := app_size s (g y)
    refine ⟨by omega, fun x hx => ?_⟩
    rcases List.mem_cons.1 hx with rfl | hx
    · omega
    · exact h2 x hx
theorem listG_ge {α : Type} (l : List α) (g : α → ByteArray) {x : α} (h : x ∈ l) : (g x).size ≤ (listG l g).size := (foldl_ge g l _).2 x h
theorem C24g {α : Type} (g : Nat) (c : Cod) (l : List α) (f : α → ByteArray) (hN : Sm l) (hz : (listG l f).size ≤ 1152921504606846976)
    (hC : ∀ (i : Nat) (x : α), l[i]? = some x → C Try.prog g [dInt i, .ptr 1000 0 0] [.box c.cells] (dStr (f x)) [.box c.cells] []) : C Try.prog 24 [dInt l.length, .fn g [(1000, 0, 0)]] [.box c.cells] (dStr (listG l f)) [.box c.cells] [] := by
  obtain ⟨e, he, hf⟩ := listG_ex l f
  have := C24c g l.length c e hN (by rw [he]; exact hz) fun i hi => by
    obtain ⟨x, hx⟩ := get_ex hi
    rw [hf i x hx]; exact hC i x hx
  rwa [he] at this
theorem C8 (c : Cod) (n : Nat) (h : c.Pk n) : C Try.prog 8 [c.av] [] (dStr (packS c)) [] [] := by
  obtain ⟨⟨h1, h1'⟩, ⟨h2, h2'⟩, ⟨h3, h3'⟩, ⟨h4, h4'⟩, ⟨h5, h5'⟩, ⟨h6, h6'⟩, ⟨h7, h7'⟩, hz⟩ := h
  have e : packS c = ⟨#[82, 67, 49]⟩ ++ listG c.texts textS ++ numS c.nums.length ++ numsS c.nums ++ listG c.funs fnS ++ listG c.actors actS ++ listG c.impls implS ++ listG c.makers makS ++ listG c.pats patsA := rfl
  rw [e] at hz ⊢
  simp only [app_size] at hz
  have k1 := C24g 25 c c.texts textS h1 (by omega) fun i x hx => C25 c i x hx (h1' x (List.mem_of_getElem? hx))
  have k3 := C24g 29 c c.funs fnS h3 (by omega) fun i f hf => by
    have hm := List.mem_of_getElem? hf
    obtain ⟨a1, a2, a3, a4, a5, a6⟩ := h3' f hm
    have q := listG_ge c.funs fnS hm
    have q2 : (fnS f).size = _ := app_size (textS f.name ++ numsS [f.params, f.holds, f.regs]) (listS f.ins.length fun j => insS (f.ins.getD j ⟨0, 0, 0, 0, []⟩))
    exact C29 c i f hf a1 a2 a3 a4 a5 (by omega) a6
  have k4 := C24g 31 c c.actors actS h4 (by omega) fun i x hx => by
    obtain ⟨a1, a2, a3⟩ := h4' x (List.mem_of_getElem? hx)
    exact C31 c i x hx a1 a2 a3
  have k5 := C24g 32 c c.impls implS h5 (by omega) fun i x hx => by
    obtain ⟨a1, a2, a3⟩ := h5' x (List.mem_of_getElem? hx)
    exact C32 c i x hx a1 a2 a3
  have k6 := C24g 33 c c.makers makS h6 (by omega) fun i x hx => by
    obtain ⟨a1, a2, a3⟩ := h6' x (List.mem_of_getElem? hx)
    exact C33 c i x hx a1 a2 a3
  have k7 := C24g 34 c c.pats patsA h7 (by omega) fun i x hx => by
    have hm := List.mem_of_getElem? hx
    obtain ⟨a1, a2⟩ := h7' x hm
    have q := listG_ge c.pats patsA hm
    exact C34 c i x n hx a1 (by omega) a2
  have zn := numS_size c.nums.length
  have k2 := C28 false c.nums h2 h2'
  simp only [slA_f] at k2
  have kn := C27 c.nums.length (by omega) (by omega)
  generalize listG c.texts textS = A1 at *
  generalize listG c.funs fnS = A3 at *
  generalize listG c.actors actS = A4 at *
  generalize listG c.impls implS = A5 at *
  generalize listG c.makers makS = A6 at *
  generalize listG c.pats patsA = A7 at *
  generalize numsS c.nums = A2 at *
  generalize numS c.nums.length = AN at *
  have b3 : (⟨#[82, 67, 49]⟩ : ByteArray).size = 3 := rfl
  rw [b3] at hz
  refine C_intro T_ok (rs := [.tmp 2]) Try.func8 rfl rfl rfl (Nat.le_of_ble_eq_true rfl) (Nat.le_of_ble_eq_true rfl) rfl ⟨rfl, rfl⟩ rfl fun cx hn => ?_
  have hn : cx.n = 48 := hn
  have Y := And.intro T3 (And.intro T4 (And.intro T9 (And.intro T22 (And.intro T23 (And.intro T24 (And.intro T25 (And.intro T26 (And.intro T27 (And.intro T28 (And.intro T30 (And.intro T38 (And.intro T40 (And.intro T60 (And.intro T61 (And.intro T63 (And.intro T67 (And.intro T72 (And.intro T75 (T77)))))))))))))))))))
  simp only [enumA, enumO, Nat.reduceAdd]
  have E := And.intro @app_size (@b3)
  repeat' first | refine R_nil ?_ | ((with_reducible apply tagG); first | refine qg1 ?_ | refine qg2 ?_ | refine qg3 ?_ | refine qg4 ?_ | refine qg5 ?_ | refine qg6 (fun hb => ?_) (fun hb => ?_)) | ((with_reducible apply tagK); first | ((with_reducible apply tagD); first | refine qd7 [1] (k1) ?_ | refine qd6 [1] (k1) ?_ | refine qd5 (kn) ?_ | refine qd5 (k2) ?_ | refine qd7 [1] (k3) ?_ | refine qd6 [1] (k3) ?_ | refine qd7 [1] (k4) ?_ | refine qd6 [1] (k4) ?_ | refine qd7 [1] (k5) ?_ | refine qd6 [1] (k5) ?_ | refine qd7 [1] (k6) ?_ | refine qd6 [1] (k6) ?_ | refine qd7 [1] (k7) ?_ | refine qd6 [1] (k7) ?_) | ((with_reducible apply tagR); first | refine qr7 [1] (k1) ?_ | refine qr6 [1] (k1) ?_ | refine qr5 (kn) ?_ | refine qr5 (k2) ?_ | refine qr7 [1] (k3) ?_ | refine qr6 [1] (k3) ?_ | refine qr7 [1] (k4) ?_ | refine qr6 [1] (k4) ?_ | refine qr7 [1] (k5) ?_ | refine qr6 [1] (k5) ?_ | refine qr7 [1] (k6) ?_ | refine qr6 [1] (k6) ?_ | refine qr7 [1] (k7) ?_ | refine qr6 [1] (k7) ?_)) | ((with_reducible apply tagS); first | ((with_reducible apply tagD); first | refine qd1 ?_ | refine qd3 ?_) | ((with_reducible apply tagR); first | refine qr1 ?_ | refine qr3 ?_)) | ((with_reducible apply tagN); first | ((with_reducible apply tagD); first | refine qd2 ?_ | refine qd4 ?_) | ((with_reducible apply tagR); first | refine qr2 ?_ | refine qr4 ?_)) | ((with_reducible apply tagW); first | refine qw1 ?_ | refine qw2 ?_ | refine qw3 ?_ | refine qw4 ?_ | refine qw5 ?_ | refine qw6 (fun hb => ?_) (fun hb => ?_) | refine qw7 ?_ | refine qw8 ?_ | refine qw9 ?_ | refine qw0 ?_) | refine thenQ_n ?_ | refine thenQ_e ?_ | refine thenQ_r ?_ | refine blockQ_n ?_ | refine blockQ_r ?_ | refine blockQ_hit ?_ | refine qb4 ?_ | refine qe ?_ | refine loopQ_e ?_ | refine loopQ_r ?_
  all_goals clear E
  exact ret_d rfl rfl
end Go.Pw
