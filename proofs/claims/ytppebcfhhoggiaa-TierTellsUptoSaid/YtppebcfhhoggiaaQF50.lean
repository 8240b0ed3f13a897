/- The arguments as they are read: the records. -/
import Derived.Test.YtppebcfhhoggiaaQF49
import Derived.Test.YtppebcfhhoggiaaQF41
set_option linter.unusedVariables false
set_option linter.unusedSimpArgs false
set_option linter.unusedSectionVars false
set_option linter.unnecessarySimpa false
namespace Go.Pw
open Go Go.Proofs
set_option maxRecDepth 8000
set_option maxHeartbeats 2000000
section
variable {H : Type} {enc : TypeId × Value → H} {w : World} {sp : Nat → Bool} {held : Bool} {n : Nat} {cs : List Value} {y : DataW H × List MemPlace}
theorem rd_int (h : DataW.trod enc Try.prog w 0 sp held n 3 cs = some y) : ∃ k, cs = [.int .i64 k] ∧ I64 k ∧ 1 ≤ bulk y.1 := by
  obtain ⟨k, rfl, rfl, hw⟩ := DataW.trod_int Try.underlying3 h
  refine ⟨k, rfl, ?_, by simp only [bulk, Go.Proofs.Ytppebcfhhoggiaa.Rows.uptoBulk]; exact Nat.le_refl 1⟩
  obtain ⟨h1, h2⟩ := (Lit.wf_int_iff .i64 k).1 hw
  rw [show IntKind.i64.min = -9223372036854775808 by kernel_rfl] at h1
  rw [show IntKind.i64.max = 9223372036854775807 by kernel_rfl] at h2
  unfold I64; omega
theorem rd_str (h : DataW.trod enc Try.prog w 0 sp held n 9 cs = some y) : ∃ s : ByteArray, cs = [.string s] ∧ s.size + 1 ≤ bulk y.1 := by
  obtain ⟨s, rfl, rfl, hw⟩ := DataW.trod_string Try.underlying9 h
  exact ⟨s, rfl, by simp only [bulk, Go.Proofs.Ytppebcfhhoggiaa.Rows.uptoBulk]; rw [Array.length_toList]; exact Nat.le_refl _⟩
theorem rd_bool (h : DataW.trod enc Try.prog w 0 sp held n 4 cs = some y) : ∃ b : Bool, cs = [.bool b] ∧ 1 ≤ bulk y.1 := by
  obtain ⟨b, rfl, rfl⟩ := DataW.trod_bool Try.underlying4 h
  exact ⟨b, rfl, by simp [bulk, Go.Proofs.Ytppebcfhhoggiaa.Rows.uptoBulk]⟩
theorem rd_struct {t : TypeId} {fs : Array Field} (ht : Try.prog.underlying t = some (.struct fs)) (h : DataW.trod enc Try.prog w 0 sp held n t cs = some y) :
    ∃ n' xs, n = n' + 1 ∧ cs.length = Try.prog.cellsOf t ∧ (fs.toList.mapM fun f => DataW.trod enc Try.prog w 0 sp held n' f.type ((cs.drop f.offset).take (Try.prog.cellsOf f.type))) = some xs ∧ bulks (xs.map (·.1)) + 1 = bulk y.1 := by
  cases n with
  | zero => simp [DataW.trod] at h
  | succ n =>
    unfold DataW.trod at h
    rw [ht] at h
    split at h <;> try (simp_all; done)
    all_goals
      rename_i e
      simp only [Option.some.injEq, TypeDesc.struct.injEq] at e
      subst e
      split at h
      · rename_i hl
        obtain ⟨xs, hx, rfl⟩ := Option.map_eq_some_iff.1 h
        exact ⟨n, xs, rfl, hl, hx, by simp [bulk, Go.Proofs.Ytppebcfhhoggiaa.Rows.uptoBulk]⟩
      · cases h
theorem c3 : Try.prog.cellsOf 3 = 1 := by kernel_rfl
theorem c4 : Try.prog.cellsOf 4 = 1 := by kernel_rfl
theorem c9 : Try.prog.cellsOf 9 = 1 := by kernel_rfl
theorem c22 : Try.prog.cellsOf 22 = 1 := by kernel_rfl
theorem c23 : Try.prog.cellsOf 23 = 1 := by kernel_rfl
theorem c24 : Try.prog.cellsOf 24 = 1 := by kernel_rfl
theorem c25 : Try.prog.cellsOf 25 = 1 := by kernel_rfl
theorem c26 : Try.prog.cellsOf 26 = 1 := by kernel_rfl
theorem c27 : Try.prog.cellsOf 27 = 1 := by kernel_rfl
theorem c28 : Try.prog.cellsOf 28 = 1 := by kernel_rfl
theorem c30 : Try.prog.cellsOf 30 = 7 := by kernel_rfl
theorem c38 : Try.prog.cellsOf 38 = 1 := by kernel_rfl
theorem c40 : Try.prog.cellsOf 40 = 5 := by kernel_rfl
theorem c60 : Try.prog.cellsOf 60 = 5 := by kernel_rfl
theorem c61 : Try.prog.cellsOf 61 = 1 := by kernel_rfl
theorem c63 : Try.prog.cellsOf 63 = 4 := by kernel_rfl
theorem c67 : Try.prog.cellsOf 67 = 3 := by kernel_rfl
theorem c75 : Try.prog.cellsOf 75 = 4 := by kernel_rfl
theorem c77 : Try.prog.cellsOf 77 = 3 := by kernel_rfl
theorem c90 : Try.prog.cellsOf 90 = 3 := by kernel_rfl
theorem rel1 {x : D} {v : Value} (h : RelD w (Lay w) x v) : All2 (RelD w (Lay w)) [x] [v] := .cons h .nil
theorem sum_ones (l : List Int) : (l.map fun _ => 1).sum = l.length := by
  induction l with
  | nil => rfl
  | cons x l ih => simp only [List.map_cons, List.sum_cons, ih, List.length_cons]; omega
theorem rd_ints (h : DataW.trod enc Try.prog w 0 sp held n 23 cs = some y) : ∃ l : List Int, ∃ v, cs = [v] ∧ RelD w (Lay w) (.sl (ints l)) v ∧ l.length + 1 ≤ bulk y.1 ∧ ∀ x ∈ l, I64 x := by
  obtain ⟨l, v, h1, h2, h3, h4⟩ := rd_slice 1 (fun s => [DI s]) (fun _ => 1) I64 Try.underlying23 c3 (by decide) (fun n' _ cs y hy => by
    obtain ⟨k, rfl, hk, hb⟩ := rd_int hy
    exact ⟨k, rel1 (.lit _ rfl), hb, hk⟩) h
  rw [sum_ones] at h3
  exact ⟨l, v, h1, h2, h3, h4⟩
theorem rd_strs (h : DataW.trod enc Try.prog w 0 sp held n 22 cs = some y) : ∃ l : List ByteArray, ∃ v, cs = [v] ∧ RelD w (Lay w) (.sl (strs l)) v ∧ (l.map fun s => s.size + 1).sum + 1 ≤ bulk y.1 := by
  obtain ⟨l, v, h1, h2, h3, h4⟩ := rd_slice 1 (fun s => [DS s]) (fun s : ByteArray => s.size + 1) (fun _ => True) Try.underlying22 c9 (by decide) (fun n' _ cs y hy => by
    obtain ⟨k, rfl, hb⟩ := rd_str hy
    exact ⟨k, rel1 (.lit _ rfl), hb, trivial⟩) h
  exact ⟨l, v, h1, h2, h3⟩
def insM (i : Ins) : Nat := 6 + i.args.length
def insI (i : Ins) : Prop := I64 i.op ∧ I64 i.a ∧ I64 i.b ∧ I64 i.c ∧ ∀ x ∈ i.args, I64 x
theorem rd_ins (h : DataW.trod enc Try.prog w 0 sp held n 60 cs = some y) : ∃ x : Ins, All2 (RelD w (Lay w)) x.row cs ∧ insM x ≤ bulk y.1 ∧ insI x := by
  obtain ⟨n', xs, rfl, hl, hm, hb⟩ := rd_struct Try.underlying60 h
  rw [c60] at hl
  match cs, hl with
  | [k0, k1, k2, k3, k4], _ =>
    simp only [List.mapM_cons, List.mapM_nil, c3, c23, List.drop_zero, List.drop_succ_cons, List.take_succ_cons, List.take_zero, Option.bind_eq_bind, Option.bind_eq_some_iff, Option.pure_def, Option.some.injEq] at hm
    obtain ⟨y0, h0, _, ⟨y1, h1, _, ⟨y2, h2, _, ⟨y3, h3, _, ⟨y4, h4, _, rfl, rfl⟩, rfl⟩, rfl⟩, rfl⟩, rfl⟩ := hm
    obtain ⟨z0, e0, i0, b0⟩ := rd_int h0
    obtain ⟨z1, e1, i1, b1⟩ := rd_int h1
    obtain ⟨z2, e2, i2, b2⟩ := rd_int h2
    obtain ⟨z3, e3, i3, b3⟩ := rd_int h3
    obtain ⟨l, v, e4, r4, b4, i4⟩ := rd_ints h4
    cases e0; cases e1; cases e2; cases e3; cases e4
    refine ⟨⟨z0, z1, z2, z3, l⟩, .cons (.lit _ rfl) (.cons (.lit _ rfl) (.cons (.lit _ rfl) (.cons (.lit _ rfl) (.cons r4 .nil)))), ?_, i0, i1, i2, i3, i4⟩
    simp only [bulks, bulk, List.map_cons, List.map_nil, Go.Proofs.Ytppebcfhhoggiaa.Rows.uptoBulkAll, insM] at hb b0 b1 b2 b3 b4 ⊢
    omega
theorem rd_inss (h : DataW.trod enc Try.prog w 0 sp held n 38 cs = some y) : ∃ l : List Ins, ∃ v, cs = [v] ∧ RelD w (Lay w) (.sl (inss l)) v ∧ (l.map insM).sum + 1 ≤ bulk y.1 ∧ ∀ x ∈ l, insI x :=
  rd_slice 5 Ins.row insM insI Try.underlying38 c60 (by decide) (fun n' _ cs y hy => rd_ins hy) h
def fnM (f : Fn) : Nat := 6 + f.name.size + (f.ins.map insM).sum
def fnI (f : Fn) : Prop := I64 f.params ∧ I64 f.holds ∧ I64 f.regs ∧ ∀ x ∈ f.ins, insI x
theorem rd_fn (h : DataW.trod enc Try.prog w 0 sp held n 40 cs = some y) : ∃ x : Fn, All2 (RelD w (Lay w)) x.row cs ∧ fnM x ≤ bulk y.1 ∧ fnI x := by
  obtain ⟨n', xs, rfl, hl, hm, hb⟩ := rd_struct Try.underlying40 h
  rw [c40] at hl
  match cs, hl with
  | [k0, k1, k2, k3, k4], _ =>
    simp only [List.mapM_cons, List.mapM_nil, c3, c9, c38, List.drop_zero, List.drop_succ_cons, List.take_succ_cons, List.take_zero, Option.bind_eq_bind, Option.bind_eq_some_iff, Option.pure_def, Option.some.injEq] at hm
    obtain ⟨y0, h0, _, ⟨y1, h1, _, ⟨y2, h2, _, ⟨y3, h3, _, ⟨y4, h4, _, rfl, rfl⟩, rfl⟩, rfl⟩, rfl⟩, rfl⟩ := hm
    obtain ⟨z0, e0, b0⟩ := rd_str h0
    obtain ⟨z1, e1, i1, b1⟩ := rd_int h1
    obtain ⟨z2, e2, i2, b2⟩ := rd_int h2
    obtain ⟨z3, e3, i3, b3⟩ := rd_int h3
    obtain ⟨l, v, e4, r4, b4, i4⟩ := rd_inss h4
    cases e0; cases e1; cases e2; cases e3; cases e4
    refine ⟨⟨z0, z1, z2, z3, l⟩, .cons (.lit _ rfl) (.cons (.lit _ rfl) (.cons (.lit _ rfl) (.cons (.lit _ rfl) (.cons r4 .nil)))), ?_, i1, i2, i3, i4⟩
    simp only [bulks, bulk, List.map_cons, List.map_nil, Go.Proofs.Ytppebcfhhoggiaa.Rows.uptoBulkAll, fnM] at hb b0 b1 b2 b3 b4 ⊢
    omega
theorem rd_fns (h : DataW.trod enc Try.prog w 0 sp held n 24 cs = some y) : ∃ l : List Fn, ∃ v, cs = [v] ∧ RelD w (Lay w) (.sl (fns l)) v ∧ (l.map fnM).sum + 1 ≤ bulk y.1 ∧ ∀ x ∈ l, fnI x :=
  rd_slice 5 Fn.row fnM fnI Try.underlying24 c40 (by decide) (fun n' _ cs y hy => rd_fn hy) h
def actM (f : Actr) : Nat := 5 + f.name.size
def actI (f : Actr) : Prop := I64 f.states ∧ I64 f.fn
theorem rd_act (h : DataW.trod enc Try.prog w 0 sp held n 75 cs = some y) : ∃ x : Actr, All2 (RelD w (Lay w)) x.row cs ∧ actM x ≤ bulk y.1 ∧ actI x := by
  obtain ⟨n', xs, rfl, hl, hm, hb⟩ := rd_struct Try.underlying75 h
  rw [c75] at hl
  match cs, hl with
  | [k0, k1, k2, k3], _ =>
    simp only [List.mapM_cons, List.mapM_nil, c3, c4, c9, List.drop_zero, List.drop_succ_cons, List.take_succ_cons, List.take_zero, Option.bind_eq_bind, Option.bind_eq_some_iff, Option.pure_def, Option.some.injEq] at hm
    obtain ⟨y0, h0, _, ⟨y1, h1, _, ⟨y2, h2, _, ⟨y3, h3, _, rfl, rfl⟩, rfl⟩, rfl⟩, rfl⟩ := hm
    obtain ⟨z0, e0, b0⟩ := rd_str h0
    obtain ⟨z1, e1, i1, b1⟩ := rd_int h1
    obtain ⟨z2, e2, i2, b2⟩ := rd_int h2
    obtain ⟨z3, e3, b3⟩ := rd_bool h3
    cases e0; cases e1; cases e2; cases e3
    refine ⟨⟨z0, z1, z2, z3⟩, .cons (.lit _ rfl) (.cons (.lit _ rfl) (.cons (.lit _ rfl) (.cons (.lit _ rfl) .nil))), ?_, i1, i2⟩
    simp only [bulks, bulk, List.map_cons, List.map_nil, Go.Proofs.Ytppebcfhhoggiaa.Rows.uptoBulkAll, actM] at hb b0 b1 b2 b3 ⊢
    omega
theorem rd_acts (h : DataW.trod enc Try.prog w 0 sp held n 25 cs = some y) : ∃ l : List Actr, ∃ v, cs = [v] ∧ RelD w (Lay w) (.sl (actrs l)) v ∧ (l.map actM).sum + 1 ≤ bulk y.1 ∧ ∀ x ∈ l, actI x :=
  rd_slice 4 Actr.row actM actI Try.underlying25 c75 (by decide) (fun n' _ cs y hy => rd_act hy) h
def impM (f : Impl) : Nat := 4 + f.name.size + f.for_.size
theorem rd_imp (h : DataW.trod enc Try.prog w 0 sp held n 67 cs = some y) : ∃ x : Impl, All2 (RelD w (Lay w)) x.row cs ∧ impM x ≤ bulk y.1 ∧ I64 x.fn := by
  obtain ⟨n', xs, rfl, hl, hm, hb⟩ := rd_struct Try.underlying67 h
  rw [c67] at hl
  match cs, hl with
  | [k0, k1, k2], _ =>
    simp only [List.mapM_cons, List.mapM_nil, c3, c9, List.drop_zero, List.drop_succ_cons, List.take_succ_cons, List.take_zero, Option.bind_eq_bind, Option.bind_eq_some_iff, Option.pure_def, Option.some.injEq] at hm
    obtain ⟨y0, h0, _, ⟨y1, h1, _, ⟨y2, h2, _, rfl, rfl⟩, rfl⟩, rfl⟩ := hm
    obtain ⟨z0, e0, b0⟩ := rd_str h0
    obtain ⟨z1, e1, b1⟩ := rd_str h1
    obtain ⟨z2, e2, i2, b2⟩ := rd_int h2
    cases e0; cases e1; cases e2
    refine ⟨⟨z0, z1, z2⟩, .cons (.lit _ rfl) (.cons (.lit _ rfl) (.cons (.lit _ rfl) .nil)), ?_, i2⟩
    simp only [bulks, bulk, List.map_cons, List.map_nil, Go.Proofs.Ytppebcfhhoggiaa.Rows.uptoBulkAll, impM] at hb b0 b1 b2 ⊢
    omega
theorem rd_imps (h : DataW.trod enc Try.prog w 0 sp held n 26 cs = some y) : ∃ l : List Impl, ∃ v, cs = [v] ∧ RelD w (Lay w) (.sl (implsD l)) v ∧ (l.map impM).sum + 1 ≤ bulk y.1 ∧ ∀ x ∈ l, I64 x.fn :=
  rd_slice 3 Impl.row impM (fun x => I64 x.fn) Try.underlying26 c67 (by decide) (fun n' _ cs y hy => rd_imp hy) h
def makM (f : Maker) : Nat := 4 + f.name.size + f.data.size
theorem rd_mak (h : DataW.trod enc Try.prog w 0 sp held n 77 cs = some y) : ∃ x : Maker, All2 (RelD w (Lay w)) x.row cs ∧ makM x ≤ bulk y.1 ∧ I64 x.args := by
  obtain ⟨n', xs, rfl, hl, hm, hb⟩ := rd_struct Try.underlying77 h
  rw [c77] at hl
  match cs, hl with
  | [k0, k1, k2], _ =>
    simp only [List.mapM_cons, List.mapM_nil, c3, c9, List.drop_zero, List.drop_succ_cons, List.take_succ_cons, List.take_zero, Option.bind_eq_bind, Option.bind_eq_some_iff, Option.pure_def, Option.some.injEq] at hm
    obtain ⟨y0, h0, _, ⟨y1, h1, _, ⟨y2, h2, _, rfl, rfl⟩, rfl⟩, rfl⟩ := hm
    obtain ⟨z0, e0, b0⟩ := rd_str h0
    obtain ⟨z1, e1, b1⟩ := rd_str h1
    obtain ⟨z2, e2, i2, b2⟩ := rd_int h2
    cases e0; cases e1; cases e2
    refine ⟨⟨z0, z1, z2⟩, .cons (.lit _ rfl) (.cons (.lit _ rfl) (.cons (.lit _ rfl) .nil)), ?_, i2⟩
    simp only [bulks, bulk, List.map_cons, List.map_nil, Go.Proofs.Ytppebcfhhoggiaa.Rows.uptoBulkAll, makM] at hb b0 b1 b2 ⊢
    omega
theorem rd_maks (h : DataW.trod enc Try.prog w 0 sp held n 27 cs = some y) : ∃ l : List Maker, ∃ v, cs = [v] ∧ RelD w (Lay w) (.sl (makersD l)) v ∧ (l.map makM).sum + 1 ≤ bulk y.1 ∧ ∀ x ∈ l, I64 x.args :=
  rd_slice 3 Maker.row makM (fun x => I64 x.args) Try.underlying27 c77 (by decide) (fun n' _ cs y hy => rd_mak hy) h
mutual
def patM : Pat → Nat
  | .mk _ _ t l => 5 + t.size + patsM l
def patsM : List Pat → Nat
  | [] => 0
  | p :: l => patM p + patsM l
end
theorem patsM_sum : ∀ l : List Pat, (l.map patM).sum = patsM l
  | [] => by rw [patsM]; rfl
  | p :: l => by rw [patsM, List.map_cons, List.sum_cons, patsM_sum l]
inductive PatI : Pat → Prop
  | mk {k n : Int} {t : ByteArray} {l : List Pat} (hk : I64 k) (hn : I64 n) (hl : ∀ x ∈ l, PatI x) : PatI (.mk k n t l)
theorem rd_pat : ∀ (n : Nat) (cs : List Value) (y : DataW H × List MemPlace), DataW.trod enc Try.prog w 0 sp held n 63 cs = some y → ∃ x : Pat, All2 (RelD w (Lay w)) x.row cs ∧ patM x ≤ bulk y.1 ∧ PatI x := by
  intro n
  induction n using Nat.strongRecOn with
  | _ n ih =>
  intro cs y h
  obtain ⟨n', xs, rfl, hl, hm, hb⟩ := rd_struct Try.underlying63 h
  rw [c63] at hl
  match cs, hl with
  | [k0, k1, k2, k3], _ =>
    simp only [List.mapM_cons, List.mapM_nil, c3, c9, c61, List.drop_zero, List.drop_succ_cons, List.take_succ_cons, List.take_zero, Option.bind_eq_bind, Option.bind_eq_some_iff, Option.pure_def, Option.some.injEq] at hm
    obtain ⟨y0, h0, _, ⟨y1, h1, _, ⟨y2, h2, _, ⟨y3, h3, _, rfl, rfl⟩, rfl⟩, rfl⟩, rfl⟩ := hm
    obtain ⟨z0, e0, i0, b0⟩ := rd_int h0
    obtain ⟨z1, e1, i1, b1⟩ := rd_int h1
    obtain ⟨z2, e2, b2⟩ := rd_str h2
    obtain ⟨l, v, e3, r3, b3, i3⟩ := rd_slice 4 Pat.row patM PatI Try.underlying61 c63 (by decide) (fun n2 hn2 cs y hy => ih n2 (by omega) cs y hy) h3
    cases e0; cases e1; cases e2; cases e3
    rw [← patsD_map] at r3
    rw [patsM_sum] at b3
    refine ⟨.mk z0 z1 z2 l, ?_, ?_, .mk i0 i1 i3⟩
    · rw [Pat.row]
      exact .cons (.lit _ rfl) (.cons (.lit _ rfl) (.cons (.lit _ rfl) (.cons r3 .nil)))
    · rw [patM]
      simp only [bulks, bulk, List.map_cons, List.map_nil, Go.Proofs.Ytppebcfhhoggiaa.Rows.uptoBulkAll] at hb b0 b1 b2 b3 ⊢
      omega
theorem rd_pats (h : DataW.trod enc Try.prog w 0 sp held n 61 cs = some y) : ∃ l : List Pat, ∃ v, cs = [v] ∧ RelD w (Lay w) (.sl (patsD l)) v ∧ patsM l + 1 ≤ bulk y.1 ∧ ∀ x ∈ l, PatI x := by
  obtain ⟨l, v, h1, h2, h3, h4⟩ := rd_slice 4 Pat.row patM PatI Try.underlying61 c63 (by decide) (fun n2 hn2 cs y hy => rd_pat n2 cs y hy) h
  rw [← patsD_map] at h2
  rw [patsM_sum] at h3
  exact ⟨l, v, h1, h2, h3, h4⟩
theorem rd_patss (h : DataW.trod enc Try.prog w 0 sp held n 28 cs = some y) : ∃ l : List (List Pat), ∃ v, cs = [v] ∧ RelD w (Lay w) (.sl (patss l)) v ∧ (l.map fun p => patsM p + 1).sum + 1 ≤ bulk y.1 ∧ ∀ p ∈ l, ∀ x ∈ p, PatI x :=
  rd_slice 1 (fun p => [.sl (patsD p)]) (fun p => patsM p + 1) (fun p => ∀ x ∈ p, PatI x) Try.underlying28 c61 (by decide) (fun n' _ cs y hy => by
    obtain ⟨l, v, rfl, h2, h3, h4⟩ := rd_pats hy
    exact ⟨l, rel1 h2, h3, h4⟩) h
def codM (c : Cod) : Nat := (c.texts.map fun s => s.size + 1).sum + c.nums.length + (c.funs.map fnM).sum + (c.actors.map actM).sum + (c.impls.map impM).sum + (c.makers.map makM).sum + (c.pats.map fun p => patsM p + 1).sum
structure CodI (c : Cod) : Prop where
  nums : ∀ x ∈ c.nums, I64 x
  funs : ∀ x ∈ c.funs, fnI x
  actors : ∀ x ∈ c.actors, actI x
  impls : ∀ x ∈ c.impls, I64 x.fn
  makers : ∀ x ∈ c.makers, I64 x.args
  pats : ∀ p ∈ c.pats, ∀ x ∈ p, PatI x
def Cod.ds (c : Cod) : List D := [.sl (strs c.texts), .sl (ints c.nums), .sl (fns c.funs), .sl (actrs c.actors), .sl (implsD c.impls), .sl (makersD c.makers), .sl (patss c.pats)]
theorem rd_cod (h : DataW.trod enc Try.prog w 0 sp held n 30 cs = some y) : ∃ c : Cod, All2 (RelD w (Lay w)) c.ds cs ∧ codM c ≤ bulk y.1 ∧ CodI c := by
  obtain ⟨n', xs, rfl, hl, hm, hb⟩ := rd_struct Try.underlying30 h
  rw [c30] at hl
  match cs, hl with
  | [k0, k1, k2, k3, k4, k5, k6], _ =>
    simp only [List.mapM_cons, List.mapM_nil, c22, c23, c24, c25, c26, c27, c28, List.drop_zero, List.drop_succ_cons, List.take_succ_cons, List.take_zero, Option.bind_eq_bind, Option.bind_eq_some_iff, Option.pure_def, Option.some.injEq] at hm
    obtain ⟨y0, h0, _, ⟨y1, h1, _, ⟨y2, h2, _, ⟨y3, h3, _, ⟨y4, h4, _, ⟨y5, h5, _, ⟨y6, h6, _, rfl, rfl⟩, rfl⟩, rfl⟩, rfl⟩, rfl⟩, rfl⟩, rfl⟩ := hm
    obtain ⟨l0, v0, e0, r0, b0⟩ := rd_strs h0
    obtain ⟨l1, v1, e1, r1, b1, i1⟩ := rd_ints h1
    obtain ⟨l2, v2, e2, r2, b2, i2⟩ := rd_fns h2
    obtain ⟨l3, v3, e3, r3, b3, i3⟩ := rd_acts h3
    obtain ⟨l4, v4, e4, r4, b4, i4⟩ := rd_imps h4
    obtain ⟨l5, v5, e5, r5, b5, i5⟩ := rd_maks h5
    obtain ⟨l6, v6, e6, r6, b6, i6⟩ := rd_patss h6
    cases e0; cases e1; cases e2; cases e3; cases e4; cases e5; cases e6
    refine ⟨⟨l0, l1, l2, l3, l4, l5, l6⟩, .cons r0 (.cons r1 (.cons r2 (.cons r3 (.cons r4 (.cons r5 (.cons r6 .nil)))))), ?_, i1, i2, i3, i4, i5, i6⟩
    simp only [bulks, bulk, List.map_cons, List.map_nil, Go.Proofs.Ytppebcfhhoggiaa.Rows.uptoBulkAll, codM] at hb b0 b1 b2 b3 b4 b5 b6 ⊢
    omega
theorem rd_tri (h : DataW.trod enc Try.prog w 0 sp held n 90 cs = some y) : ∃ x : Tri, All2 (RelD w (Lay w)) x.row cs ∧ 1 ≤ bulk y.1 ∧ True := by
  obtain ⟨xs, m, rfl, rfl, hl, hx, hg⟩ := DataW.trod_array Try.underlying90 h
  rw [c90] at hl
  match cs, hl, xs, hx with
  | [k0, k1, k2], _, [y0, y1, y2], _ =>
    have h0 := hg 0 (by decide)
    have h1 := hg 1 (by decide)
    have h2 := hg 2 (by decide)
    simp only [c3, Nat.zero_mul, Nat.one_mul, Nat.mul_one, List.drop_zero, List.drop_succ_cons, List.take_succ_cons, List.take_zero, List.getElem?_cons_zero, List.getElem?_cons_succ] at h0 h1 h2
    obtain ⟨z0, e0, i0, b0⟩ := rd_int h0
    obtain ⟨z1, e1, i1, b1⟩ := rd_int h1
    obtain ⟨z2, e2, i2, b2⟩ := rd_int h2
    cases e0; cases e1; cases e2
    exact ⟨⟨z0, z1, z2⟩, .cons (.lit _ rfl) (.cons (.lit _ rfl) (.cons (.lit _ rfl) .nil)), by simp [bulk, Go.Proofs.Ytppebcfhhoggiaa.Rows.uptoBulk], trivial⟩
theorem rd_tris (h : DataW.trod enc Try.prog w 0 sp held n 31 cs = some y) : ∃ l : List Tri, ∃ v, cs = [v] ∧ RelD w (Lay w) (.sl (trisD l)) v ∧ l.length + 1 ≤ bulk y.1 := by
  obtain ⟨l, v, h1, h2, h3, h4⟩ := rd_slice 3 Tri.row (fun _ => 1) (fun _ => True) Try.underlying31 c90 (by decide) (fun n' _ cs y hy => rd_tri hy) h
  have : ∀ l : List Tri, (l.map fun _ => 1).sum = l.length := by
    intro l
    induction l with
    | nil => rfl
    | cons x l ih => simp only [List.map_cons, List.sum_cons, ih, List.length_cons]; omega
  rw [this] at h3
  exact ⟨l, v, h1, h2, h3⟩
end
end Go.Pw
