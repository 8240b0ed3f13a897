/- THE TIER, WHERE WHAT IS READ IS OF BULK AT MOST 1048576: whatever the code, the beliefs and the number of the function are, roadlaw1.TierTells returns true, and its arguments read as they did. -/
import Derived.Test.YtppebcfhhoggiaaQF48
import Derived.Test.YtppebcfhhoggiaaQF51
import Derived.ProofKit
import Derived.JoinedCond
import Derived.OpenShut
import Derived.WideKeyArgs
set_option linter.unusedVariables false
set_option linter.unusedSimpArgs false
namespace Go.Proofs.Ytppebcfhhoggiaa.tierTells
open Go Go.Pw Go.ChangeShapes Go.WideShapes Go.ChangeAt Go.RowKit
set_option linter.unusedVariables false
set_option maxRecDepth 8000
theorem laidOut : laidOutB Try.prog = true := by kernel_rfl
theorem own : ownKnob Try.prog.godebug = none := by kernel_rfl
theorem le_of_small {H : Type} {l : List (DataW H)} (hk : Rows.uptoSmall H l = true) : Rows.uptoBulkAll l ≤ 1048576 := of_decide_eq_true hk
theorem all2_map {α β γ : Type} {R : α → β → Prop} {S : γ → β → Prop} (g : α → γ) (h : ∀ a b, R a b → S (g a) b) {xs : List α} {ys : List β} (hx : All2 R xs ys) : All2 S (xs.map g) ys := by
  induction hx with
  | nil => exact .nil
  | cons h1 _ ih => exact .cons (h _ _ h1) ih
theorem all2_right {α β : Type} {R : α → β → Prop} {S : β → Prop} (h : ∀ a b, R a b → S b) {xs : List α} {ys : List β} (hx : All2 R xs ys) : ∀ b ∈ ys, S b := by
  induction hx with
  | nil => intro b hb; cases hb
  | cons h1 _ ih =>
    intro b hb
    rcases List.mem_cons.1 hb with rfl | hb
    · exact h _ _ h1
    · exact ih b hb
theorem kept {W w' : World} (h1 : W.heap.size ≤ w'.heap.size) (h2 : ∀ b, b < W.heap.size → w'.heap[b]? = W.heap[b]?) (h3 : w'.os = W.os) (h4 : w'.output = W.output) : W.keptBut w' fun _ => False := by
  refine ⟨h3, h4, fun i hi => ?_⟩
  rw [h2 i hi]
  cases hx : W.heap[i]? with
  | none => rfl
  | some o => cases o <;> first | exact ⟨rfl, rfl, rfl, fun _ _ => rfl⟩ | exact .inr ⟨rfl, rfl⟩ | rfl
theorem contract (H : Type) (enc : TypeId × Value → H) (W : World) (base : Nat) (args : Array Value) (ds gs : List (DataW H)) (before : List MemPlace)
    (hval : ∀ (j : Nat) t v, Try.f3.params[j]? = some t → args[j]? = some v → Value.okWide Try.prog W .any base t v)
    (hW : DataW.Whole enc Try.prog Try.f3.params.toList Rows.tierTellsSpec.vars false W args.toList ds gs before) (hk : Rows.uptoSmall H (ds ++ gs) = true) :
    Calls Try.prog 3 args W fun e W' => ∃ v, e = .returned v ∧ Rows.tierTellsSpec.post enc Try.prog Try.f3 false true false false W args v W' := by
  have hW' := hW
  obtain ⟨p, q, hA0, hV, rfl, hfz, hnd⟩ := hW
  have hA : DataW.TrodAll enc Try.prog W 0 (fun _ => true) true Try.f3.params.toList args.toList ds p := hA0
  rw [Try.params3] at hA hval
  obtain ⟨v0, vs0, d0, ds0, p0, q0, hargs, rfl, rfl, h0, r0⟩ := trodAll_cons hA
  obtain ⟨v1, vs1, d1, ds1, p1, q1, rfl, rfl, rfl, h1, r1⟩ := trodAll_cons r0
  obtain ⟨v2, vs2, d2, ds2, p2, q2, rfl, rfl, rfl, h2, r2⟩ := trodAll_cons r1
  obtain ⟨rfl, rfl, rfl⟩ := trodAll_nil r2
  obtain rfl : args = #[v0, v1, v2] := by cases args; simp_all
  obtain ⟨rfl, rfl⟩ := trodVars_none hV
  have hb := le_of_small hk
  simp only [Rows.uptoBulkAll, List.append_nil] at hb
  obtain ⟨f0, h0'⟩ := h0
  obtain ⟨c, hc1, hc2, hc3⟩ := rd_cod h0'
  obtain ⟨f1, h1'⟩ := h1
  obtain ⟨l, u, hl1, hl2, hl3⟩ := rd_tris h1'
  obtain ⟨f2, h2'⟩ := h2
  obtain ⟨n, hn1, hn2, hn3⟩ := rd_int h2'
  have hcs : ∃ cs, v0 = .agg cs := by
    have := hval 0 30 v0 (by simp) (by simp)
    simp only [Value.okWide, Try.underlying30] at this
    obtain ⟨cs, rfl, _⟩ := this
    exact ⟨cs, rfl⟩
  obtain ⟨cs, rfl⟩ := hcs
  obtain ⟨a1, len1, cap1, rfl⟩ := okWide_slice Try.underlying31 (hval 1 31 v1 (by simp) (by simp))
  obtain ⟨n2, rfl⟩ := okWide_int Try.underlying3 (hval 2 3 v2 (by simp) (by simp))
  simp only [Value.cells, List.cons.injEq, and_true] at hc1 hl1 hn1
  subst hl1
  cases hn1
  obtain ⟨hbig, hnm⟩ := big_of (c := c) (by simp only [bulk] at hc2; omega)
  have hpk := pk_of hnm (named_I hc3)
  have hC := C3 c l n 2097152 hbig hpk (by show _ ≤ _; simp only [bulk] at hl3; omega)
  have hmem : Mem W (Lay W) (rootM []) (fun _ => ⟨none, 0, 0, 0⟩) := ⟨fun b hb => ⟨hb, fun k o hk => by simp [rootM] at hk⟩, fun k o hk => by simp [rootM] at hk, fun k k' o o' b hk => by simp [rootM] at hk⟩
  refine (hC.calls W (Lay W) (fun _ => ⟨none, 0, 0, 0⟩) [.agg cs, .slice a1 len1 cap1, .int .i64 n] hmem (.cons ?_ (.cons ?_ (.cons ?_ .nil)))).mono ?_
  · exact ⟨cs.toList, by simp, all2_map (R := RelD W (Lay W)) AV.d (fun a b h => h) hc1, all2_right (fun a b h => RelD.one h) hc1⟩
  · exact hl2
  · exact RelD.lit _ rfl
  · rintro e w' ⟨v, St', bl', rfl, hm', hv, hf⟩
    have hv2 : v = .bool true := by
      have : RelD w' St' (.lit (.bool true)) v := hv
      cases this; rfl
    subst hv2
    have hkept : ∀ b, b < W.heap.size → w'.heap[b]? = W.heap[b]? := fun b hb => hf.pres b hb fun ⟨k, o, hk, _⟩ => by simp [rootM] at hk
    have hgrow : W.keptBut w' fun _ => False := kept hf.sz hkept hf.os hf.output
    have hsame : ∀ p : MemPlace, p.block < W.heap.size → W.sameAt w' p := by
      intro p hp
      cases p with
      | cell b off => exact World.cell?_of_block (w := W) (w' := w') (hkept b hp)
      | map b => exact hkept b hp
    have hlt := hW'.lt
    have stays : ∀ {t : TypeId} {v : Value} {d : DataW H} {ps : List MemPlace}, Try.prog.readableRec t = true → t < Try.prog.types.size → (∀ p ∈ ps, p.block < W.heap.size) →
        DataW.Trod enc Try.prog W 0 (fun _ => true) true t v d ps → DataW.Trod enc Try.prog w' 0 (fun b => decide (b < W.heap.size)) true t v d ps :=
      fun hr hrow hps h => WideElems.Trod_stays laidOut hr hrow h (fun p hp => hsame p (hps p hp)) (fun p hp => decide_eq_true (hps p hp))
    refine ⟨_, rfl, _, _, _, [], p0 ++ (p1 ++ (p2 ++ [])), [], hW', trodAll_cons_mk (shut_bool Try.underlying4 _) trodAll_mk0, ?_, rfl, World.keptBut_mono (fun _ h => h.elim) hgrow, fun h => by cases h⟩
    refine trodAll_cons_mk (stays (by kernel_rfl) (of_decide_eq_true (by kernel_rfl)) (fun p hp => hlt p (by simp [hp])) ⟨f0, h0'⟩) (trodAll_cons_mk (stays (by kernel_rfl) (of_decide_eq_true (by kernel_rfl)) (fun p hp => hlt p (by simp [hp])) ⟨f1, h1'⟩) (trodAll_cons_mk (stays (by kernel_rfl) (of_decide_eq_true (by kernel_rfl)) (fun p hp => hlt p (by simp [hp])) ⟨f2, h2'⟩) trodAll_mk0))
set_option maxRecDepth 100000 in
theorem lifted (os : Os) (started : os.Started) (H : Type) (enc : TypeId × Value → H) (F : Stop.Interp) :
    ReturnsInHanded {} Try.checked os 3 .any ((Rows.OpenSpec.upto Rows.tierTellsSpec).pre6 enc Try.prog Try.f3 Rows.tierTellsUptoRow.domain false) (((Rows.OpenSpec.upto Rows.tierTellsSpec).at F).post enc Try.prog Try.f3 false true false false) := by
  refine returnsInHanded_of_cond (C := Try.checked) (s := Rows.OpenSpec.upto Rows.tierTellsSpec) (k := Rows.uptoSmall) rfl own started (by kernel_rfl) Try.func3
    (OpenSpec.witness (enc := enc) (C := Try.checked) (s := Rows.OpenSpec.upto Rows.tierTellsSpec) (k := Rows.uptoSmall) rfl false ⟨#[], #[.agg #[.slice none 0 0, .slice none 0 0, .slice none 0 0, .slice none 0 0, .slice none 0 0, .slice none 0 0, .slice none 0 0], .slice none 0 0, .int .i64 0], []⟩ 8 (by kernel_rfl) (by kernel_rfl) (by kernel_rfl)
      (x := ([.agg [.nil, .nil, .nil, .nil, .nil, .nil, .nil], .nil, .lit (.int .i64 0)], [], [])) (by kernel_rfl) rfl (by kernel_rfl)) ?_
  intro W base args ds gs before hval hW _ hk _
  exact contract H enc W base args ds gs before hval hW hk
theorem over : Rows.tierTellsUptoRow.holds Try.pinned (Rows.OpenSpec.upto Rows.tierTellsSpec) :=
  OpenClaim.holds_of_cond 3 Try.f3 rfl rfl rfl rfl rfl rfl rfl ⟨rfl, rfl, rfl, rfl, rfl⟩ rfl rfl rfl rfl rfl (by kernel_rfl) Try.func3 (by kernel_rfl)
    (of_decide_eq_true (by kernel_rfl)) (by unfold Func.isWrapper; first | (rw [if_pos (by decide +kernel)]; kernel_rfl) | (rw [if_neg (by decide +kernel)]; exact ⟨rfl, rfl⟩))
    (fun os started H enc _ F => lifted os started H enc F)
theorem proved : Rows.TierTellsUptoSaid :=
  over
end Go.Proofs.Ytppebcfhhoggiaa.tierTells
