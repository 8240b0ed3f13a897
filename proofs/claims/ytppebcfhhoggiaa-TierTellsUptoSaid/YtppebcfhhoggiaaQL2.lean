/- Two steps that have nothing to do with one another may change places; a region that draws its order. -/
import Derived.Test.YtppebcfhhoggiaaQL1
import Derived.OwnWalk
import Derived.Test.YtppebcfhhoggiaaProg
import Derived.KernelRfl
import Derived.Laws.BitsLemmas
set_option linter.unusedVariables false
set_option linter.unusedSimpArgs false
set_option linter.unusedSectionVars false
set_option linter.unnecessarySimpa false
namespace Go.Pw
open Go
structure Eff (P : Program) (T : Tab) (n : Nat) (ops : Array Oper) (o : Oper) (s s' : S) (tr : Tr) (v : AV) (X : List Nat) (M' : Mm) (L K : List Nat) : Prop where
  eq : s' = s.app o.dst v X M'
  XW : ∀ k ∈ X, k ∈ tr.W
  other : ∀ k, k ∉ tr.W → M' k = (s.M k).map (Ob.scr X)
  vk : ∀ k ∈ v.keys, k ∈ tr.R
  ok : ∀ k ∈ tr.W, ∀ k' ∈ obKeys M' k, k' ∈ tr.R
  LA : ∀ t ∈ L, t ∈ o.looksAt ops
  LR : ∀ t ∈ L, ∀ k ∈ (s.tm t).keys, k ∈ tr.R
  KR : ∀ k ∈ K, (k ∈ tr.R ∨ k ∈ tr.W) ∧ ∀ k' ∈ obKeys s.M k, k' ∈ tr.R
  frame : ∀ s2 : S, (∀ t ∈ L, s2.tm t = s.tm t) → (∀ k ∈ K, s2.M k = s.M k) → ∃ M2, Step P T n ops o s2 (s2.app o.dst v X M2) tr ∧ (∀ k ∈ tr.W, M2 k = M' k) ∧ ∀ k, k ∉ tr.W → M2 k = (s2.M k).map (Ob.scr X)
theorem eval_congr {s s2 : S} {x : Operand} (h : ∀ t, x = .tmp t → s2.tm t = s.tm t) : eval s2 x = eval s x := by
  cases x with
  | tmp t => exact h t rfl
  | _ => rfl
section
variable {P : Program} {T : Tab} {n : Nat} {ops : Array Oper} {o : Oper} {s s' : S} {tr : Tr}
def opTmps (o : Oper) : List Nat := o.op.operands.toList.filterMap fun | .tmp t => some t | _ => none
theorem trOf_frame {s2 : S} {v : AV} {W R : List Nat} {M M2 : Mm} (he : ∀ x, x ∈ o.op.operands.toList → eval s2 x = eval s x) (hM : ∀ k, k ∈ (opKeys s o ++ R) ++ W → s2.M k = s.M k) (hM2 : ∀ k ∈ W, M2 k = M k) : trOf s2 o v W R M2 = trOf s o v W R M := by
  have e1 : opKeys s2 o = opKeys s o := by
    unfold opKeys
    rw [List.flatMap_def, List.flatMap_def]
    congr 1
    exact List.map_congr_left fun x hx => by rw [he x hx]
  have e2 : ((opKeys s o ++ R) ++ W).flatMap (obKeys s2.M) = ((opKeys s o ++ R) ++ W).flatMap (obKeys s.M) := by
    rw [List.flatMap_def, List.flatMap_def]
    congr 1
    exact List.map_congr_left fun k hk => by unfold obKeys; rw [hM k hk]
  have e3 : W.flatMap (obKeys M2) = W.flatMap (obKeys M) := by
    rw [List.flatMap_def, List.flatMap_def]
    congr 1
    exact List.map_congr_left fun k hk => by unfold obKeys; rw [hM2 k hk]
  unfold trOf
  rw [e1, e2, e3]
theorem Step.eff (h : Step P T n ops o s s' tr) : ∃ v X M' L K, Eff P T n ops o s s' tr v X M' L K := by
  obtain ⟨hd, h⟩ := step_cases h
  rcases h with ⟨g, want, t, hg, ht, hb, rfl, rfl⟩ | ⟨hg, h⟩
  · -- skipped
    refine ⟨.tup [], [], s.M, [t], [], rfl, by simp, fun k _ => (map_scr_nil _).symm, by simp [AV.keys, AV.keys2, AV.keys1], by simp, fun t' ht' => ?_, fun t' ht' k hk => ?_, by simp, fun s2 h1 _ => ⟨s2.M, ?_, by simp, fun k _ => (map_scr_nil _).symm⟩⟩
    · have : t' = t := by simpa using ht'
      subst this
      unfold Oper.looksAt
      rw [hg]
      unfold guardOf at ht
      simp [ht]
    · have : t' = t := by simpa using ht'
      subst this
      rcases hb with hb | hb <;> (rw [hb] at hk; simp [AV.keys, AV.keys2, AV.keys1] at hk)
    · exact step_skip_of hd hg ht (by rw [h1 t (by simp)]; exact hb)
  · -- carried out
    obtain ⟨gL, hgL1, hgL2, hgL3⟩ : ∃ gL : List Nat, (∀ t ∈ gL, t ∈ o.looksAt ops) ∧ (∀ t ∈ gL, (s.tm t).keys = []) ∧
        (∀ s2 : S, (∀ t ∈ gL, s2.tm t = s.tm t) → (o.guard = none ∨ ∃ g want t, o.guard = some (g, want) ∧ guardOf ops g = some t ∧ s2.tm t = .d (.lit (.bool want)))) := by
      rcases hg with hg | ⟨g, want, t, hg, ht, hb⟩
      · exact ⟨[], by simp, by simp, fun _ _ => .inl hg⟩
      · refine ⟨[t], fun t' ht' => ?_, fun t' ht' => ?_, fun s2 h1 => .inr ⟨g, want, t, hg, ht, by rw [h1 t (by simp)]; exact hb⟩⟩
        · have : t' = t := by simpa using ht'
          subst this
          unfold Oper.looksAt
          rw [hg]
          unfold guardOf at ht
          simp [ht]
        · have : t' = t := by simpa using ht'
          subst this
          rw [hb]; rfl
    have optm : ∀ t, Operand.tmp t ∈ o.op.operands.toList → t ∈ opTmps o := fun t ht => List.mem_filterMap.2 ⟨_, ht, rfl⟩
    have optm' : ∀ t ∈ opTmps o, Operand.tmp t ∈ o.op.operands.toList := fun t ht => by
      obtain ⟨x, hx, he⟩ := List.mem_filterMap.1 ht
      cases x <;> simp at he
      subst he; exact hx
    have lookop : ∀ t ∈ opTmps o, t ∈ o.looksAt ops := fun t ht => List.mem_append_left _ (by unfold opTmps at ht; exact ht)
    have evs : ∀ s2 : S, (∀ t ∈ gL ++ opTmps o, s2.tm t = s.tm t) → ∀ x, x ∈ o.op.operands.toList → eval s2 x = eval s x := fun s2 h1 x hx =>
      eval_congr fun t ht => h1 t (List.mem_append_right _ (optm t (ht ▸ hx)))
    have opk : ∀ t ∈ opTmps o, ∀ k ∈ (s.tm t).keys, k ∈ opKeys s o := fun t ht k hk => List.mem_flatMap.2 ⟨_, optm' t ht, hk⟩
    -- an operation without a call
    have plain : ∀ u, out T s o.op (dOf' o) = some u → u.ob → s.app o.dst u.v u.X u.M = s' → trOf s o u.v u.W u.R u.M = tr →
        (∀ s2 : S, (∀ u2, out T s2 o.op (dOf' o) = some u2 → u2.ob → stepOp P T o s2 (fun s1 t1 => s1 = s2.app o.dst u2.v u2.X u2.M ∧ t1 = trOf s2 o u2.v u2.W u2.R u2.M))) → ∃ v X M' L K, Eff P T n ops o s s' tr v X M' L K := by
      intro u hu hob he htr hst
      subst he; subst htr
      have base := out_fr (s' := s) hu (fun _ _ => rfl) (fun _ _ => rfl)
      obtain ⟨_, _, _, _, _, _, _, _, b7, b8⟩ := base
      refine ⟨u.v, u.X, u.M, gL ++ opTmps o, (opKeys s o ++ u.R) ++ u.W, rfl, b8, fun k hk => (b7 k hk).1, fun k hk => ?_, fun k hk k' hk' => ?_, fun t ht => ?_, fun t ht k hk => ?_, fun k hk => ⟨?_, fun k' hk' => ?_⟩, fun s2 h1 h2 => ?_⟩
      · unfold trOf; simp only [List.mem_append]; exact .inl (.inr hk)
      · unfold trOf; simp only [List.mem_append]; exact .inr (List.mem_flatMap.2 ⟨k, hk, hk'⟩)
      · rcases List.mem_append.1 ht with ht | ht
        · exact hgL1 t ht
        · exact lookop t ht
      · rcases List.mem_append.1 ht with ht | ht
        · rw [hgL2 t ht] at hk; cases hk
        · unfold trOf; simp only [List.mem_append]; exact .inl (.inl (.inl (.inl (opk t ht k hk))))
      · rcases List.mem_append.1 hk with hk | hk
        · exact .inl (by unfold trOf; simp only [List.mem_append] at hk ⊢; exact .inl (.inl (.inl hk)))
        · exact .inr hk
      · unfold trOf; simp only [List.mem_append]
        exact .inl (.inl (.inr (List.mem_flatMap.2 ⟨k, by simpa using hk, hk'⟩)))
      · have hev := evs s2 h1
        have hM : ∀ k, (k ∈ u.R ∨ k ∈ u.W ∨ ∃ x, x ∈ o.op.operands.toList ∧ k ∈ (eval s x).keys) → s2.M k = s.M k := fun k hk => h2 k (by
          simp only [List.mem_append]
          rcases hk with hk | hk | ⟨x, hx, hk⟩
          · exact .inl (.inr hk)
          · exact .inr hk
          · exact .inl (.inl (List.mem_flatMap.2 ⟨x, hx, hk⟩)))
        obtain ⟨u', g1, g2, g3, g4, g5, g6, g7, g8, _⟩ := out_fr (s' := s2) hu hev hM
        refine ⟨u'.M, ?_, fun k hk => g7 k hk, fun k hk => (g8 k hk).2⟩
        have hst2 := hst s2 u' g1 (g6 hob)
        rw [g2, g3, g4, g5] at hst2
        rw [trOf_frame (M := u.M) hev (fun k hk => h2 k hk) (fun k hk => g7 k hk)] at hst2
        exact step_op_of hd (hgL3 s2 fun t ht => h1 t (List.mem_append_left _ ht)) hst2
    have h' := h
    unfold stepOp at h
    split at h
    · rename_i c hc
      split at h
      · rename_i f hf
        split at h
        · rename_i fid caps he
          obtain ⟨ks, kw, r, Ms', OW, hkw, hsame, hok, hC, rfl, rfl⟩ := h
          have hmem : ∀ k, k ∈ ks ++ ownKeys (dOf' o) OW ↔ (ks.contains k = true ∨ (2000 + 8 * dOf' o ≤ k ∧ k < 2000 + 8 * dOf' o + OW.length)) := by
            intro k
            rw [List.mem_append]
            unfold ownKeys
            simp only [List.mem_map, List.mem_range, List.contains_iff_mem]
            constructor
            · rintro (h1 | ⟨j, hj, rfl⟩)
              · exact .inl h1
              · exact .inr ⟨by omega, by omega⟩
            · rintro (h1 | h1)
              · exact .inl h1
              · exact .inr ⟨k - (2000 + 8 * dOf' o), by omega, by omega⟩
          refine ⟨r.ren (rb ks (dOf' o)), callX s ks, callM s ks (dOf' o) Ms' OW, gL ++ opTmps o, (opKeys s o ++ ks) ++ (kw ++ ownKeys (dOf' o) OW), rfl, fun k hk => ?_, fun k hk => ?_, fun k hk => ?_, fun k hk k' hk' => ?_, fun t ht => ?_, fun t ht k hk => ?_, fun k hk => ⟨?_, fun k' hk' => ?_⟩, fun s2 h1 h2 => ?_⟩
          · exact absurd hk (by simp [callX])
          · have hk0 : ¬ (k ∈ kw ++ ownKeys (dOf' o) OW) := hk
            by_cases hkk : k ∈ ks
            · rw [hsame k hkk fun h => hk0 (List.mem_append_left _ h)]
              exact (map_scr_nil _).symm
            have hk' : ¬ (k ∈ ks ++ ownKeys (dOf' o) OW) := fun h => by
              rcases List.mem_append.1 h with h | h
              · exact hkk h
              · exact hk0 (List.mem_append_right _ h)
            rw [hmem] at hk'
            unfold callM
            rw [if_neg (fun h => hk' (.inl h)), if_neg (fun h => hk' (.inr h))]
          · unfold trOf; simp only [List.mem_append]; exact .inl (.inr hk)
          · unfold trOf; simp only [List.mem_append]; exact .inr (List.mem_flatMap.2 ⟨k, hk, hk'⟩)
          · rcases List.mem_append.1 ht with ht | ht
            · exact hgL1 t ht
            · exact lookop t ht
          · rcases List.mem_append.1 ht with ht | ht
            · rw [hgL2 t ht] at hk; cases hk
            · unfold trOf; simp only [List.mem_append]; exact .inl (.inl (.inl (.inl (opk t ht k hk))))
          · rcases List.mem_append.1 hk with hk | hk
            · exact .inl (by unfold trOf; simp only [List.mem_append] at hk ⊢; exact .inl (.inl (.inl hk)))
            · exact .inr hk
          · unfold trOf; simp only [List.mem_append]
            exact .inl (.inl (.inr (List.mem_flatMap.2 ⟨k, by simpa using hk, hk'⟩)))
          · have hev := evs s2 h1
            have hks : ∀ k ∈ ks, s2.M k = s.M k := fun k hk => h2 k (by simp only [List.mem_append]; exact .inl (.inr hk))
            have e1 : callMs s2 ks = callMs s ks := by
              unfold callMs
              have : ∀ l : List Nat, (∀ k ∈ l, s2.M k = s.M k) → l.filterMap (fun k => (s2.M k).map (Ob.ren (rf ks))) = l.filterMap fun k => (s.M k).map (Ob.ren (rf ks)) := by
                intro l
                induction l with
                | nil => intro; rfl
                | cons k l ih =>
                  intro hl
                  simp only [List.filterMap_cons, hl k (by simp), ih fun k' hk' => hl k' (by simp [hk'])]
              exact this ks hks
            have e2 : callX s2 ks = callX s ks := rfl
            have e3 : callArgs s2 ks c caps = callArgs s ks c caps := by
              unfold callArgs
              congr 1
              · refine List.map_congr_left fun x hx => ?_
                have hx' : x ∈ o.op.operands.toList := by
                  rw [hc]; simp only [Op.operands, Call.operands]; simp; exact .inr (by simpa using hx)
                rw [hev x hx']
                unfold toArg
                split
                · rename_i k lo len he2
                  rw [h2 k (by
                    simp only [List.mem_append]
                    exact .inl (.inl (List.mem_flatMap.2 ⟨x, hx', by rw [he2]; simp [AV.keys, AV.keys2, AV.keys1]⟩)))]
                · rfl
            have hok2 : callOk s2 ks (dOf' o) OW := by
              obtain ⟨p1, p2, p3, p4, p5⟩ := hok
              refine ⟨p1, p2, fun k hk => by rw [hks k hk]; exact p3 k hk, fun k hk ob hob => p4 k hk ob (by rw [← hks k hk]; exact hob), fun j hj => ?_⟩
              rw [h2 _ (by
                refine List.mem_append_right _ (List.mem_append_right _ ?_)
                unfold ownKeys
                exact List.mem_map.2 ⟨j, List.mem_range.2 hj, rfl⟩)]
              exact p5 j hj
            have eW0 : ∀ k ∈ ks ++ ownKeys (dOf' o) OW, callM s2 ks (dOf' o) Ms' OW k = callM s ks (dOf' o) Ms' OW k := by
              intro k hk
              rw [hmem] at hk
              unfold callM
              by_cases h5 : ks.contains k = true
              · rw [if_pos h5, if_pos h5]
              · rw [if_neg h5, if_neg h5]
                rcases hk with hk | hk
                · exact absurd hk h5
                · rw [if_pos hk, if_pos hk]
            have eW : ∀ k ∈ kw ++ ownKeys (dOf' o) OW, callM s2 ks (dOf' o) Ms' OW k = callM s ks (dOf' o) Ms' OW k := fun k hk => eW0 k (by
              rcases List.mem_append.1 hk with h | h
              · exact List.mem_append_left _ (hkw k h)
              · exact List.mem_append_right _ h)
            have hsame2 : ∀ k ∈ ks, k ∉ kw → callM s2 ks (dOf' o) Ms' OW k = s2.M k := fun k hk hn => by
              rw [eW0 k (List.mem_append_left _ hk), hsame k hk hn, hks k hk]
            refine ⟨callM s2 ks (dOf' o) Ms' OW, ?_, eW, fun k hk => ?_⟩
            · refine step_op_of hd (hgL3 s2 fun t ht => h1 t (List.mem_append_left _ ht)) ?_
              unfold stepOp
              simp only [hc, hf]
              have hfo : f ∈ o.op.operands.toList := by rw [hc]; simp only [Op.operands, Call.operands, hf]; simp
              rw [hev f hfo, he]
              refine ⟨ks, kw, r, Ms', OW, hkw, hsame2, hok2, by rw [e3, e1]; exact hC, by rw [e2], ?_⟩
              exact trOf_frame hev (fun k hk => h2 k hk) eW
            · have hk0 : ¬ (k ∈ kw ++ ownKeys (dOf' o) OW) := hk
              by_cases hkk : k ∈ ks
              · rw [hsame2 k hkk fun h => hk0 (List.mem_append_left _ h)]
                exact (map_scr_nil _).symm
              have hk' : ¬ (k ∈ ks ++ ownKeys (dOf' o) OW) := fun h => by
                rcases List.mem_append.1 h with h | h
                · exact hkk h
                · exact hk0 (List.mem_append_right _ h)
              rw [hmem] at hk'
              unfold callM
              rw [if_neg (fun h => hk' (.inl h)), if_neg (fun h => hk' (.inr h)), e2]
        · exact h.elim
      · split at h
        · rename_i hnv _ u hu
          refine plain u hu h.1 h.2.1 h.2.2 fun s2 u2 hu2 hob2 => ?_
          rw [hc] at hu2
          unfold stepOp
          cases hcal : c.callee with
          | value f => exact absurd hcal (hnv f)
          | invoke x m => simp only [hc, hcal, hu2]; exact ⟨hob2, by trivial, by trivial⟩
          | builtin b => simp only [hc, hcal, hu2]; exact ⟨hob2, by trivial, by trivial⟩
        · exact h.elim
    · split at h
      · rename_i hnc _ u hu
        refine plain u hu h.1 h.2.1 h.2.2 fun s2 u2 hu2 hob2 => ?_
        unfold stepOp
        split
        · rename_i c hc; exact absurd hc (hnc c)
        · rw [hu2]; exact ⟨hob2, rfl, rfl⟩
      · exact h.elim
end
theorem app_tm (s : S) (dst : Option Tmp) (v : AV) (X : List Nat) (M : Mm) (t : Nat) : (s.app dst v X M).tm t = if dst = some t then v else scr X (s.tm t) := by
  cases dst with
  | none => simp [S.app]
  | some d =>
    by_cases e : t = d
    · subst e; simp [S.app, upd_same]
    · have : ¬ d = t := fun h => e h.symm
      simp [S.app, upd_ne _ _ e, this]
theorem app_M (s : S) (dst : Option Tmp) (v : AV) (X : List Nat) (M : Mm) : (s.app dst v X M).M = M := by cases dst <;> rfl
theorem scr_same {X : List Nat} {v : AV} (h : ∀ k ∈ v.keys, k ∉ X) : scr X v = v := by
  unfold scr
  rw [if_neg]
  intro hc
  obtain ⟨k, hk, hX⟩ := List.any_eq_true.1 hc
  exact h k hk (by simpa using hX)
theorem scr_keys (X : List Nat) (v : AV) : (scr X v).keys = v.keys := by
  rcases scr_cases X v with e | ⟨e, _⟩
  · rw [e]; rfl
  · rw [e]
theorem scr_comm (X Y : List Nat) (v : AV) : scr X (scr Y v) = scr Y (scr X v) := by
  have key : ∀ A B : List Nat, scr A (scr B v) = if v.keys.any (fun k => A.contains k) || v.keys.any (fun k => B.contains k) then .dead v.keys else v := by
    intro A B
    have h1 : ∀ x : AV, x.keys = v.keys → scr A x = if v.keys.any (fun k => A.contains k) then .dead v.keys else x := by
      intro x hx; unfold scr; rw [hx]
    rw [h1 _ (scr_keys B v)]
    unfold scr
    cases v.keys.any (fun k => A.contains k) <;> cases v.keys.any (fun k => B.contains k) <;> rfl
  rw [key, key, Bool.or_comm]
theorem Ob.scr_comm (X Y : List Nat) (o : Ob) : (o.scr Y).scr X = (o.scr X).scr Y := by
  cases o with
  | box cs => simp only [Ob.scr, List.map_map]; congr 1; exact List.map_congr_left fun c _ => Pw.scr_comm X Y c
  | row => rfl
  | raw => rfl
theorem map_scr_comm (X Y : List Nat) (o : Option Ob) : (o.map (Ob.scr Y)).map (Ob.scr X) = (o.map (Ob.scr X)).map (Ob.scr Y) := by
  cases o with
  | none => rfl
  | some o => simp only [Option.map_some, Ob.scr_comm]
theorem map_scr_same {X : List Nat} {o : Option Ob} (h : ∀ ob, o = some ob → ∀ k ∈ ob.keys, k ∉ X) : o.map (Ob.scr X) = o := by
  cases o with
  | none => rfl
  | some ob =>
    cases ob with
    | row => rfl
    | raw => rfl
    | box cs =>
      simp only [Option.map_some, Ob.scr]
      congr 2
      have e : cs.map (scr X) = cs.map id := List.map_congr_left fun c hc => scr_same fun k hk => h _ rfl k (List.mem_flatMap.2 ⟨c, hc, hk⟩)
      rw [e, List.map_id]
theorem map_scr_back {X : List Nat} {o : Option Ob} (h : ∀ ob, o.map (Ob.scr X) = some ob → ∀ k ∈ ob.keys, k ∉ X) : o.map (Ob.scr X) = o := by
  refine map_scr_same fun ob hob k hk => ?_
  subst hob
  refine h _ rfl k ?_
  cases ob with
  | row => simp [Ob.keys] at hk
  | raw => simp [Ob.keys] at hk
  | box cs =>
    obtain ⟨c, hc, hk⟩ := List.mem_flatMap.1 hk
    exact List.mem_flatMap.2 ⟨scr X c, List.mem_map.2 ⟨c, hc, rfl⟩, by rw [scr_keys]; exact hk⟩
def disj (a b : List Nat) : Bool := a.all fun k => !b.contains k
theorem disj_spec {a b : List Nat} (h : disj a b = true) : ∀ k ∈ a, k ∉ b := fun k hk => by
  have := List.all_eq_true.1 h k hk
  simpa using this
def indep (ops : Array Oper) (oj oi : Oper) (tj ti : Tr) : Bool := oj.apart ops oi && disj tj.W (ti.R ++ ti.W) && disj ti.W tj.R
theorem swap {P : Program} {T : Tab} {n : Nat} {ops : Array Oper} {oi oj : Oper} {s s1 s2 : S} {ti tj : Tr} (hj : Step P T n ops oj s s1 tj) (hi : Step P T n ops oi s1 s2 ti) (hin : indep ops oj oi tj ti = true) :
    ∃ s1', Step P T n ops oi s s1' ti ∧ Step P T n ops oj s1' s2 tj := by
  unfold indep at hin
  rw [Bool.and_eq_true, Bool.and_eq_true] at hin
  obtain ⟨⟨hap, hW1⟩, hW2⟩ := hin
  obtain ⟨a1, a2, a3⟩ := Oper.apart_spec hap
  have d1 := disj_spec hW1
  have d2 := disj_spec hW2
  have d1R : ∀ k ∈ tj.W, k ∉ ti.R := fun k hk h => d1 k hk (List.mem_append_left _ h)
  have d1W : ∀ k ∈ tj.W, k ∉ ti.W := fun k hk h => d1 k hk (List.mem_append_right _ h)
  obtain ⟨vj, Xj, Mj, Lj, Kj, ej⟩ := hj.eff
  obtain ⟨vi, Xi, Mi, Li, Ki, ei⟩ := hi.eff
  have hs1M : s1.M = Mj := by rw [ej.eq, app_M]
  have hs1t : ∀ t, t ∈ Li → s.tm t = s1.tm t := by
    intro t ht
    have hne : oj.dst ≠ some t := fun e => a1 t e (ei.LA t ht)
    have h1 : s1.tm t = scr Xj (s.tm t) := by rw [ej.eq, app_tm, if_neg hne]
    rw [h1]
    refine (scr_same fun k hk hX => ?_).symm
    exact d1R k (ej.XW k hX) (ei.LR t ht k (by rw [h1, scr_keys]; exact hk))
  have hs1k : ∀ k, k ∈ Ki → s.M k = s1.M k := by
    intro k hk
    obtain ⟨h1, h2⟩ := ei.KR k hk
    have hnW : k ∉ tj.W := fun hW => by
      rcases h1 with h1 | h1
      · exact d1R k hW h1
      · exact d1W k hW h1
    rw [hs1M, ej.other k hnW]
    refine (map_scr_back fun ob hob k' hk' hX => ?_).symm
    refine d1R k' (ej.XW k' hX) (h2 k' ?_)
    unfold obKeys
    rw [hs1M, ej.other k hnW, hob]; exact hk'
  obtain ⟨Mi', si, gi1, gi2⟩ := ei.frame s hs1t hs1k
  refine ⟨_, si, ?_⟩
  have hst : ∀ t, t ∈ Lj → (s.app oi.dst vi Xi Mi').tm t = s.tm t := by
    intro t ht
    have hne : oi.dst ≠ some t := fun e => a3 t e (ej.LA t ht)
    rw [app_tm, if_neg hne]
    exact scr_same fun k hk hX => d2 k (ei.XW k hX) (ej.LR t ht k hk)
  have hsk : ∀ k, k ∈ Kj → (s.app oi.dst vi Xi Mi').M k = s.M k := by
    intro k hk
    obtain ⟨h1, h2⟩ := ej.KR k hk
    have hnW : k ∉ ti.W := fun hW => by
      rcases h1 with h1 | h1
      · exact d2 k hW h1
      · exact d1W k h1 hW
    rw [app_M, gi2 k hnW]
    refine map_scr_same fun ob hob k' hk' hX => ?_
    refine d2 k' (ei.XW k' hX) (h2 k' ?_)
    unfold obKeys; rw [hob]; exact hk'
  obtain ⟨Mj', sj, gj1, gj2⟩ := ej.frame _ hst hsk
  have hfin : (s.app oi.dst vi Xi Mi').app oj.dst vj Xj Mj' = s2 := by
    have hvi : ∀ k ∈ vi.keys, k ∉ Xj := fun k hk hX => d1R k (ej.XW k hX) (ei.vk k hk)
    have hvj : ∀ k ∈ vj.keys, k ∉ Xi := fun k hk hX => d2 k (ei.XW k hX) (ej.vk k hk)
    have ht : ((s.app oi.dst vi Xi Mi').app oj.dst vj Xj Mj').tm = s2.tm := by
      funext t
      rw [app_tm, app_tm, ei.eq, app_tm, ej.eq, app_tm]
      by_cases h1 : oj.dst = some t
      · have h2 : oi.dst ≠ some t := a2 t h1
        rw [if_pos h1, if_neg h2, if_pos h1, scr_same hvj]
      · by_cases h2 : oi.dst = some t
        · rw [if_neg h1, if_pos h2, if_pos h2, scr_same hvi]
        · rw [if_neg h1, if_neg h2, if_neg h2, if_neg h1, scr_comm]
    have hM : ((s.app oi.dst vi Xi Mi').app oj.dst vj Xj Mj').M = s2.M := by
      rw [app_M, ei.eq, app_M]
      funext k
      by_cases h1 : k ∈ tj.W
      · have h2 : k ∉ ti.W := d1W k h1
        rw [gj1 k h1, ei.other k h2, hs1M]
        refine (map_scr_same fun ob hob k' hk' hX => ?_).symm
        refine d2 k' (ei.XW k' hX) (ej.ok k h1 k' ?_)
        unfold obKeys; rw [hob]; exact hk'
      · rw [gj2 k h1, app_M]
        by_cases h2 : k ∈ ti.W
        · rw [gi1 k h2]
          refine map_scr_same fun ob hob k' hk' hX => ?_
          refine d1R k' (ej.XW k' hX) (ei.ok k h2 k' ?_)
          unfold obKeys; rw [hob]; exact hk'
        · rw [gi2 k h2, ei.other k h2, hs1M, ej.other k h1, map_scr_comm]
    generalize (s.app oi.dst vi Xi Mi').app oj.dst vj Xj Mj' = z at ht hM
    cases z; cases s2
    dsimp only at ht hM
    rw [ht, hM]
  rw [hfin] at sj
  exact sj
end Go.Pw

namespace Go.Pw
open Go
def edgeB (ops : Array Oper) (i j : Nat) : Bool := match ops[i]? with
  | some o => o.after.toList.any fun e => Region.binds .any e && e.on == j
  | none => false
def reachB (ops : Array Oper) : Nat → Nat → Nat → Bool
  | 0, _, _ => false
  | f + 1, i, j => match ops[i]? with
    | some o => o.after.toList.any fun e => Region.binds .any e && (e.on == j || reachB ops f e.on j)
    | none => false
def indepB (ops : Array Oper) (x y : Nat × Tr) : Bool := match ops[x.1]?, ops[y.1]? with
  | some ox, some oy => indep ops ox oy x.2 y.2
  | _, _ => false
def pairOk (ops : Array Oper) (x y : Nat × Tr) : Bool := indepB ops x y || (edgeB ops y.1 x.1 || reachB ops 8 y.1 x.1)
def pairsOk (ops : Array Oper) : List (Nat × Tr) → Bool
  | [] => true
  | x :: l => l.all (fun y => pairOk ops x y) && pairsOk ops l
def lowB (ops : Array Oper) : Bool := (List.range ops.size).all fun i => match ops[i]? with
  | some o => o.after.toList.all fun e => !Region.binds .any e || decide (e.on < i)
  | none => true
section
variable {P : Program} {T : Tab} {n : Nat} {ops : Array Oper}
theorem pairs_mem : ∀ {l1 l2 : List (Nat × Tr)} {x : Nat × Tr}, pairsOk ops (l1 ++ x :: l2) = true → ∀ y ∈ l1, pairOk ops y x = true
  | [], _, _, _, y, hy => by simp at hy
  | z :: l1, l2, x, h, y, hy => by
    simp only [List.cons_append, pairsOk, Bool.and_eq_true] at h
    rcases List.mem_cons.1 hy with rfl | hy
    · exact List.all_eq_true.1 h.1 x (by simp)
    · exact pairs_mem h.2 y hy
theorem pairs_drop : ∀ {l1 l2 : List (Nat × Tr)} {x : Nat × Tr}, pairsOk ops (l1 ++ x :: l2) = true → pairsOk ops (l1 ++ l2) = true
  | [], l2, x, h => by simp only [List.nil_append, pairsOk, Bool.and_eq_true] at h; exact h.2
  | z :: l1, l2, x, h => by
    simp only [List.cons_append, pairsOk, Bool.and_eq_true] at h ⊢
    refine ⟨List.all_eq_true.2 fun y hy => List.all_eq_true.1 h.1 y ?_, pairs_drop h.2⟩
    rcases List.mem_append.1 hy with h1 | h1
    · exact List.mem_append_left _ h1
    · exact List.mem_append_right _ (List.mem_cons_of_mem _ h1)
theorem Chain.front {i : Nat} {oi : Oper} {ti : Tr} (hi : ops[i]? = some oi) : ∀ {l1 l2 : List (Nat × Tr)} {s s' : S}, Chain P T n ops (l1 ++ (i, ti) :: l2) s s' → (∀ y ∈ l1, ∀ oy, ops[y.1]? = some oy → indep ops oy oi y.2 ti = true) → Chain P T n ops ((i, ti) :: (l1 ++ l2)) s s'
  | [], _, _, _, h, _ => h
  | (j, tj) :: l1, l2, s, s', h, hin => by
    cases h with
    | cons hj hsj ht =>
      rename_i oj s1
      have ht' := Chain.front hi ht fun y hy => hin y (List.mem_cons_of_mem _ hy)
      cases ht' with
      | cons hi2 hsi ht2 =>
        rename_i oi2 s2
        rw [hi] at hi2; cases hi2
        obtain ⟨s1', g1, g2⟩ := swap hsj hsi (hin (j, tj) (by simp) oj hj)
        exact .cons hi g1 (.cons hj g2 ht2)
structure Inv (ops : Array Oper) (listed : Array Bool) (l : List (Nat × Tr)) : Prop where
  size : listed.size = ops.size
  mem : ∀ i, i < ops.size → (listed.getD i true = false ↔ ∃ tr, (i, tr) ∈ l)
  lt : ∀ x ∈ l, x.1 < ops.size
  sorted : l.Pairwise fun x y => x.1 < y.1
  closed : ∀ i o, ops[i]? = some o → listed.getD i false = true → ∀ e ∈ o.after, Region.binds .any e = true → listed.getD e.on false = true
theorem reach_ok {listed : Array Bool} {l : List (Nat × Tr)} (hinv : Inv ops listed l) : ∀ (f i j : Nat) {o : Oper}, ops[i]? = some o → (∀ e ∈ o.after, Region.binds .any e = true → listed.getD e.on false = true) → reachB ops f i j = true → listed.getD j false = true
  | 0, _, _, _, _, _, h => by cases h
  | f + 1, i, j, o, ho, hall, h => by
    simp only [reachB, ho] at h
    obtain ⟨e, he, h1⟩ := List.any_eq_true.1 h
    simp only [Bool.and_eq_true, Bool.or_eq_true, beq_iff_eq] at h1
    have h2 := hall e (Array.mem_toList_iff.1 he) h1.1
    rcases h1.2 with h3 | h3
    · rw [← h3]; exact h2
    · cases hq : ops[e.on]? with
      | none => cases f with
        | zero => cases h3
        | succ f => simp only [reachB, hq] at h3; cases h3
      | some oq => exact reach_ok hinv f e.on j hq (fun e' he' hb => hinv.closed e.on oq hq h2 e' he' hb) h3
theorem getD_true {listed : Array Bool} {i : Nat} (hi : i < listed.size) : listed.getD i false = true ↔ ¬ listed.getD i true = false := by
  rw [Array.getD_eq_getD_getElem?, Array.getD_eq_getD_getElem?, Array.getElem?_eq_getElem hi]
  simp
variable {cx : Ctx} {Q : Exit → Act → World → Prop}
theorem any_sound (hT : TyOk P T) (hn : cx.n ≤ 999) (hlow : lowB ops = true) {s' : S} (hQ : ∀ a' w', Sim cx s' a' w' → Q .normal a' w') : ∀ (fuel : Nat) (listed : Array Bool) (l : List (Nat × Tr)) (s : S) (a : Act) (w : World),
    Inv ops listed l → l.length ≤ fuel → pairsOk ops l = true → Chain P T cx.n ops l s s' → Sim cx s a w → wpAny P .any ops Q fuel listed a w := by
  have hreadyl : ∀ {listed : Array Bool} {l : List (Nat × Tr)}, Inv ops listed l → ∀ i, i ∈ Region.ready .any ops listed → ∃ tr, (i, tr) ∈ l := by
    intro listed l hinv i hi
    obtain ⟨h1, o, ho, _⟩ := mem_ready.1 hi
    exact (hinv.mem i (Array.getElem?_eq_some_iff.1 ho).1).1 h1
  intro fuel
  induction fuel with
  | zero =>
    intro listed l s a w hinv hl _ hch hs
    have : l = [] := List.eq_nil_of_length_eq_zero (by omega)
    subst this
    cases hch
    refine ⟨?_, hQ a w hs⟩
    rw [List.eq_nil_iff_forall_not_mem]
    intro i hi
    obtain ⟨tr, h⟩ := hreadyl hinv i hi
    simp at h
  | succ fuel ih =>
    intro listed l s a w hinv hl hp hch hs
    refine ⟨fun hr => ?_, fun i hi => ?_⟩
    · cases l with
      | nil => cases hch; exact hQ a w hs
      | cons x l =>
        exfalso
        obtain ⟨i, tr⟩ := x
        have hlt : i < ops.size := hinv.lt (i, tr) (by simp)
        have : i ∈ Region.ready .any ops listed := by
          rw [mem_ready]
          refine ⟨(hinv.mem i hlt).2 ⟨tr, by simp⟩, ops[i], Array.getElem?_eq_getElem hlt, fun e he hb => ?_⟩
          have h1 := List.all_eq_true.1 hlow i (List.mem_range.2 hlt)
          rw [Array.getElem?_eq_getElem hlt] at h1
          have h2 := List.all_eq_true.1 h1 e (Array.mem_toList_iff.2 he)
          rw [hb] at h2
          have h3 : e.on < i := by simpa using h2
          rw [getD_true (by rw [hinv.size]; omega)]
          intro h4
          obtain ⟨tr2, h5⟩ := (hinv.mem e.on (by omega)).1 h4
          rcases List.mem_cons.1 h5 with h6 | h6
          · cases h6; omega
          · have := List.rel_of_pairwise_cons hinv.sorted h6
            dsimp only at this
            omega
        rw [hr] at this; cases this
    · obtain ⟨tr, hmem⟩ := hreadyl hinv i hi
      obtain ⟨l1, l2, rfl⟩ := List.append_of_mem hmem
      obtain ⟨hun, o, ho, hall⟩ := mem_ready.1 hi
      have hlt : i < ops.size := (Array.getElem?_eq_some_iff.1 ho).1
      have hfront := Chain.front ho hch fun y hy oy hoy => by
        have h1 := pairs_mem hp y hy
        have hyl : ¬ listed.getD y.1 false = true := by
          have hylt := hinv.lt y (by simp [hy])
          rw [getD_true (by rw [hinv.size]; exact hylt)]
          intro h3
          exact h3 ((hinv.mem y.1 hylt).2 ⟨y.2, by simp [hy]⟩)
        unfold pairOk at h1
        rw [Bool.or_eq_true, Bool.or_eq_true] at h1
        rcases h1 with h1 | h1 | h1
        · unfold indepB at h1
          rw [hoy, ho] at h1
          exact h1
        · exfalso
          unfold edgeB at h1
          dsimp only at h1
          rw [ho] at h1
          obtain ⟨e, he, h2⟩ := List.any_eq_true.1 h1
          simp only [Bool.and_eq_true, beq_iff_eq] at h2
          have h3 := hall e (Array.mem_toList_iff.1 he) h2.1
          rw [h2.2] at h3
          exact hyl h3
        · exact absurd (reach_ok hinv 8 i y.1 ho hall h1) hyl
      cases hfront with
      | cons hi2 hst ht =>
        rename_i o2 s1
        rw [ho] at hi2; cases hi2
        refine step_sound hT hn ho hst hs fun a' w' hs' => ih (listed.setIfInBounds i true) (l1 ++ l2) s1 a' w' ⟨by simp [hinv.size], fun k hk => ?_, fun x hx => hinv.lt x ?_, ?_, ?_⟩ (by simp at hl ⊢; omega) (pairs_drop hp) ht hs'
        · have hnd : ∀ tr2, (i, tr2) ∉ l1 ++ l2 := by
            intro tr2 h1
            have hpw := hinv.sorted
            rw [List.pairwise_append] at hpw
            obtain ⟨_, h3, h4⟩ := hpw
            rcases List.mem_append.1 h1 with h1 | h1
            · have := h4 _ h1 (i, tr) (by simp)
              dsimp only at this; omega
            · have := List.rel_of_pairwise_cons h3 h1
              dsimp only at this; omega
          by_cases e : k = i
          · subst e
            constructor
            · intro h1
              rw [Array.getD_eq_getD_getElem?, Array.getElem?_setIfInBounds_self_of_lt (by rw [hinv.size]; exact hk)] at h1
              cases h1
            · rintro ⟨tr2, h1⟩; exact absurd h1 (hnd tr2)
          · rw [Array.getD_eq_getD_getElem?, Array.getElem?_setIfInBounds_ne (Ne.symm e), ← Array.getD_eq_getD_getElem?, hinv.mem k hk]
            constructor
            · rintro ⟨tr2, h1⟩
              refine ⟨tr2, ?_⟩
              rcases List.mem_append.1 h1 with h1 | h1
              · exact List.mem_append_left _ h1
              · rcases List.mem_cons.1 h1 with h1 | h1
                · cases h1; exact absurd rfl e
                · exact List.mem_append_right _ h1
            · rintro ⟨tr2, h1⟩
              refine ⟨tr2, ?_⟩
              rcases List.mem_append.1 h1 with h1 | h1
              · exact List.mem_append_left _ h1
              · exact List.mem_append_right _ (List.mem_cons_of_mem _ h1)
        · rcases List.mem_append.1 hx with h1 | h1
          · exact List.mem_append_left _ h1
          · exact List.mem_append_right _ (List.mem_cons_of_mem _ h1)
        · have hpw := hinv.sorted
          rw [List.pairwise_append] at hpw ⊢
          obtain ⟨h2, h3, h4⟩ := hpw
          exact ⟨h2, (List.pairwise_cons.1 h3).2, fun x hx y hy => h4 x hx y (List.mem_cons_of_mem _ hy)⟩
        · have mono : ∀ k, listed.getD k false = true → (listed.setIfInBounds i true).getD k false = true := by
            intro k hk
            by_cases e : k = i
            · subst e
              rw [Array.getD_eq_getD_getElem?, Array.getElem?_setIfInBounds_self_of_lt (by rw [hinv.size]; exact hlt)]; rfl
            · rwa [Array.getD_eq_getD_getElem?, Array.getElem?_setIfInBounds_ne (Ne.symm e), ← Array.getD_eq_getD_getElem?]
          intro k ok hok hk e he hb
          by_cases ek : k = i
          · subst ek; rw [ho] at hok; cases hok
            exact mono _ (hall e he hb)
          · rw [Array.getD_eq_getD_getElem?, Array.getElem?_setIfInBounds_ne (Ne.symm ek), ← Array.getD_eq_getD_getElem?] at hk
            exact mono _ (hinv.closed k ok hok hk e he hb)
theorem Sim.of_heap {s : S} {a : Act} {w w' : World} (hh : w'.heap = w.heap) (h1 : w'.os = w.os) (h2 : w'.tape = w.tape) (h3 : w'.output = w.output) (h : Sim cx s a w) : Sim cx s a w' := by
  obtain ⟨St, bl, hs⟩ := h
  exact ⟨St, bl, hs.mem.of_heap hh, hs.frm.of_heap hh h1 h2 h3, fun t => RelV.mv (mv_of_heap hh) (by simp) (hs.tm t), hs.n, hs.df⟩
def runL (P : Program) (T : Tab) (n : Nat) (ops : Array Oper) : Nat → List Oper → S → List (Nat × Tr) → (S → List (Nat × Tr) → Prop) → Prop
  | _, [], s, trs, K => K s trs
  | i, o :: os, s, trs, K => step P T n ops o s fun s' t => runL P T n ops (i + 1) os s' (trs ++ [(i, t)]) K
theorem runL_chain : ∀ {os : List Oper} {i : Nat} {s : S} {trs : List (Nat × Tr)} {K : S → List (Nat × Tr) → Prop}, (∀ j o, os[j]? = some o → ops[i + j]? = some o) → runL P T n ops i os s trs K →
    ∃ l s', l.map (·.1) = (List.range' i os.length) ∧ Chain P T n ops l s s' ∧ K s' (trs ++ l)
  | [], i, s, trs, K, _, h => ⟨[], s, rfl, .nil s, by rw [List.append_nil]; exact h⟩
  | o :: os, i, s, trs, K, ho, h => by
    obtain ⟨s1, tr, h1, h2⟩ := step_ex h
    obtain ⟨l, s', h3, h4, h5⟩ := runL_chain (fun j o hj => by rw [show i + 1 + j = i + (j + 1) by omega]; exact ho (j + 1) o (by simpa using hj)) h2
    refine ⟨(i, tr) :: l, s', by simp [h3, List.range'], .cons (by simpa using ho 0 o rfl) h1 h4, by simpa using h5⟩
def W (P : Program) (cx : Ctx) (c : Code) (s : S) (Q : Exit → S → Prop) : Prop :=
  ∀ a w, Sim cx s a w → c.wp P (fun e a' w' => ∃ s', Sim cx s' a' w' ∧ Q e s') a w
theorem W_region (hT : TyOk P T) (hn : cx.n ≤ 999) (hm : P.follows .mixedOrders = true) {id : Nat} {draw : Bool} {s : S} {Q : Exit → S → Prop}
    (h : runL P T cx.n ops 0 ops.toList s [] fun s' trs => (draw = true → (pairsOk ops trs && lowB ops) = true) ∧ Q .normal s') : W P cx (.region id ops draw) s Q := by
  intro a w hs
  obtain ⟨l, s', h1, h2, h3, h4⟩ := runL_chain (fun j o hj => by simpa using hj) h
  have hlen : l.length = ops.size := by
    have := congrArg List.length h1
    simpa using this
  cases draw with
  | false =>
    refine wp_region ?_
    have := chain_sound (Q := fun e a' w' => ∃ s', Sim cx s' a' w' ∧ Q e s') hT hn h2 hs fun a' w' hs' => ⟨s', hs', h4⟩
    rw [h1] at this
    rwa [List.range_eq_range', ← Array.length_toList]
  | true =>
    have h5 := h3 rfl
    rw [Bool.and_eq_true] at h5
    rw [List.nil_append] at h5
    have hidx : ∀ i, i < ops.size → ∃ tr, (i, tr) ∈ l := by
      intro i hi
      have : i ∈ l.map (·.1) := by rw [h1, List.mem_range'_1]; simp; exact hi
      obtain ⟨x, hx, rfl⟩ := List.mem_map.1 this
      exact ⟨x.2, hx⟩
    refine wp_region_any hm (any_sound hT hn h5.2 (fun a' w' hs' => ⟨s', hs', h4⟩) ops.size _ l s a _ ⟨by simp, fun i hi => ⟨fun _ => hidx i hi, fun _ => by simp [Array.getD_eq_getD_getElem?, hi]⟩, fun x hx => ?_, ?_, fun k ok hok hk => absurd hk (by simp [Array.getD_eq_getD_getElem?, Array.getElem?_replicate]; split <;> simp)⟩ (by omega) h5.1 h2 (Sim.of_heap (w := w) rfl rfl rfl rfl hs))
    · have : x.1 ∈ l.map (·.1) := List.mem_map.2 ⟨x, hx, rfl⟩
      rw [h1, List.mem_range'_1] at this
      simpa using this.2
    · have : (l.map (·.1)).Pairwise (· < ·) := by rw [h1]; exact List.pairwise_lt_range'
      exact List.pairwise_map.1 this
theorem W_mono {c : Code} {s : S} {Q Q' : Exit → S → Prop} (h : W P cx c s Q) (hq : ∀ e s, Q e s → Q' e s) : W P cx c s Q' :=
  fun a w hs => wp_mono (h a w hs) fun e a w ⟨s', h1, h2⟩ => ⟨s', h1, hq e s' h2⟩
theorem W_skip {s : S} {Q : Exit → S → Prop} (h : Q .normal s) : W P cx .skip s Q := fun a w hs => wp_skip ⟨s, hs, h⟩
theorem W_exit {id : Nat} {s : S} {Q : Exit → S → Prop} (h : Q (.exit id) s) : W P cx (.exit id) s Q := fun a w hs => wp_exit ⟨s, hs, h⟩
theorem W_ret {s : S} {Q : Exit → S → Prop} (h : Q .ret s) : W P cx .ret s Q := fun a w hs => wp_ret ⟨s, hs, h⟩
def thenQ (P : Program) (cx : Ctx) (y : Code) (Q : Exit → S → Prop) : Exit → S → Prop
  | .normal, s => W P cx y s Q
  | e, s => Q e s
theorem W_seq {x y : Code} {s : S} {Q : Exit → S → Prop} (h : W P cx x s (thenQ P cx y Q)) : W P cx (.seq x y) s Q := by
  intro a w hs
  refine wp_seq (wp_mono (h a w hs) fun e a' w' ⟨s', h1, h2⟩ => ?_)
  cases e with
  | normal => exact h2 a' w' h1
  | _ => exact ⟨s', h1, h2⟩
theorem W_cond {c : Operand} {x y : Code} {s : S} {Q : Exit → S → Prop} {b : Bool} (hc : eval s c = .d (.lit (.bool b))) (ht : b = true → W P cx x s Q) (hf : b = false → W P cx y s Q) : W P cx (.cond c x y) s Q := by
  intro a w hs
  obtain ⟨St, bl, h1⟩ := hs
  obtain ⟨he, _⟩ := eval_lit h1 hc
  exact wp_cond_split he (fun e => ht e a w ⟨St, bl, h1⟩) (fun e => hf e a w ⟨St, bl, h1⟩)
def blockQ (id : Nat) (Q : Exit → S → Prop) : Exit → S → Prop
  | .exit id', s => if id' = id then Q .normal s else Q (.exit id') s
  | e, s => Q e s
theorem W_block {id : Nat} {c : Code} {s : S} {Q : Exit → S → Prop} (h : W P cx c s (blockQ id Q)) : W P cx (.block id c) s Q := by
  intro a w hs
  refine wp_block (wp_mono (h a w hs) fun e a' w' ⟨s', h1, h2⟩ => ?_)
  cases e with
  | exit id' =>
    simp only [Exit.inBlock, blockQ] at h2 ⊢
    split
    · rw [if_pos ‹_›] at h2; exact ⟨s', h1, h2⟩
    · rw [if_neg ‹_›] at h2; exact ⟨s', h1, h2⟩
  | _ => exact ⟨s', h1, h2⟩
def roundQ (I : Nat → S → Prop) (k : Nat) (Q : Exit → S → Prop) : Exit → S → Prop
  | .normal, s => ∃ k', k' < k ∧ I k' s
  | e, s => Q e s
theorem W_loop {c : Code} {s : S} {Q : Exit → S → Prop} (I : Nat → S → Prop) (k0 : Nat) (h0 : I k0 s) (round : ∀ k s, I k s → W P cx c s (roundQ I k Q)) : W P cx (.loop c) s Q := by
  intro a w hs
  have key : ∀ k : Nat, ∀ s a w, I k s → Sim cx s a w → ∀ (b : Frame) (kk : List Item) (cs : List Frame),
      ∃ e a' w', (∃ s', Sim cx s' a' w' ∧ Q e s') ∧ Arrives P (lone (b.at a (.code c :: .inLoop c :: kk)) cs w) b kk cs e a' w' := by
    intro k
    induction k using Nat.strongRecOn with
    | _ k ih =>
      intro s a w hI hs b kk cs
      obtain ⟨e, a1, w1, ⟨s1, hs1, hq⟩, harr⟩ := round k s hI a w hs b (.inLoop c :: kk) cs
      cases e with
      | normal =>
        obtain ⟨k', hk', hI'⟩ := hq
        obtain ⟨e2, a2, w2, h2, harr2⟩ := ih k' hk' s1 a1 w1 hI' hs1 b kk cs
        exact ⟨e2, a2, w2, h2, .of_steps (Steps.trans harr (.one step_inLoop)) harr2⟩
      | exit id => exact ⟨_, a1, w1, ⟨s1, hs1, hq⟩, .pass (x := .inLoop c) rfl (fun _ _ => .inl (by simp)) harr⟩
      | goto l => exact ⟨_, a1, w1, ⟨s1, hs1, hq⟩, .pass (x := .inLoop c) rfl (fun _ _ => .inl (by simp)) harr⟩
      | ret => exact ⟨_, a1, w1, ⟨s1, hs1, hq⟩, .pass (x := .inLoop c) rfl (fun _ _ => .inl (by simp)) harr⟩
      | panic ch => exact ⟨_, a1, w1, ⟨s1, hs1, hq⟩, .pass (x := .inLoop c) rfl (fun _ _ => .inl (by simp)) harr⟩
      | outgrown => exact ⟨_, a1, w1, ⟨s1, hs1, hq⟩, .pass (x := .inLoop c) rfl (fun _ _ => .inl (by simp)) harr⟩
  intro b kk cs
  obtain ⟨e, a', w', hq, harr⟩ := key k0 s a w h0 hs b kk cs
  exact ⟨e, a', w', hq, .of_steps (.one step_loop) harr⟩
theorem W_keep {c : Code} {s : S} {Q : Exit → S → Prop} (ts ks : List Nat) (hk : keepOk ts ks s) (h : W P cx c ⟨keepT ts s.tm, keepM ks s.M⟩ Q) : W P cx c s Q := by
  rintro a w ⟨St, bl, hs⟩
  exact h a w ⟨St, bl, hs.keep ts ks hk⟩
def S.le (s' s : S) : Prop := (∀ t, s'.tm t = s.tm t ∨ s'.tm t = .undef) ∧ (∀ k, s'.M k = s.M k ∨ s'.M k = none) ∧ (∀ t, ∀ k ∈ (s'.tm t).keys, s'.M k ≠ none) ∧ ∀ k o, s'.M k = some o → ∀ k' ∈ o.keys, s'.M k' ≠ none
end
end Go.Pw

namespace Go.Pw
open Go
def look : List (Nat × AV) → Nat → AV
  | [], _ => .undef
  | (k, v) :: l, t => if t = k then v else look l t
def lookM : List (Nat × Option Ob) → Nat → Option Ob
  | [], _ => none
  | (k, v) :: l, t => if t = k then v else lookM l t
theorem map_toL {α β : Type} (f : α → β) (l : List α) : List.map f (List.toArray l).toList = List.map f l := by rw [List.toList_toArray]
theorem flatMap_toL {α β : Type} (f : α → List β) (l : List α) : List.flatMap f (List.toArray l).toList = List.flatMap f l := by rw [List.toList_toArray]
theorem look_nil (t : Nat) : look [] t = .undef := rfl
theorem look_cons (k : Nat) (v : AV) (l : List (Nat × AV)) (t : Nat) : look ((k, v) :: l) t = if t = k then v else look l t := by rw [look]
theorem lookM_nil (t : Nat) : lookM [] t = none := rfl
theorem lookM_cons (k : Nat) (v : Option Ob) (l : List (Nat × Option Ob)) (t : Nat) : lookM ((k, v) :: l) t = if t = k then v else lookM l t := by rw [lookM]
def St (ts : List (Nat × AV)) (ms : List (Nat × Option Ob)) : S := ⟨look ts, lookM ms⟩
theorem look_map (f : AV → AV) (hf : f .undef = .undef) : ∀ (ts : List (Nat × AV)), (fun t => f (look ts t)) = look (ts.map fun p => (p.1, f p.2))
  | [] => by funext t; simpa [look] using hf
  | (k, v) :: l => by
    funext t
    have := congrFun (look_map f hf l) t
    simp only [look, List.map_cons]
    split
    · rfl
    · exact this
theorem lookM_map (f : Ob → Ob) : ∀ (ms : List (Nat × Option Ob)), (fun t => (lookM ms t).map f) = lookM (ms.map fun p => (p.1, p.2.map f))
  | [] => by funext t; simp [lookM]
  | (k, v) :: l => by
    funext t
    have := congrFun (lookM_map f l) t
    simp only [lookM, List.map_cons]
    split
    · rfl
    · exact this
theorem scr_undef (X : List Nat) : scr X .undef = .undef := by simp [scr, AV.keys, AV.keys2, AV.keys1]
theorem upd_look (ts : List (Nat × AV)) (k : Nat) (v : AV) : upd (look ts) k v = look ((k, v) :: ts) := rfl
theorem upd_lookM (ms : List (Nat × Option Ob)) (k : Nat) (v : Option Ob) : upd (lookM ms) k v = lookM ((k, v) :: ms) := rfl
theorem scrM_lookM (X : List Nat) (ms : List (Nat × Option Ob)) : scrM X (lookM ms) = lookM (ms.map fun p => (p.1, p.2.map (Ob.scr X))) := lookM_map (Ob.scr X) ms
theorem dropM_lookM (Y : List Nat) (ms : List (Nat × Option Ob)) : dropM Y (lookM ms) = lookM (Y.map (fun k => (k, none)) ++ ms.map fun p => (p.1, p.2.map (Ob.scr Y))) := by
  funext k
  have : ∀ Y' : List Nat, lookM (Y'.map (fun k => (k, none)) ++ ms.map fun p => (p.1, p.2.map (Ob.scr Y))) k = if Y'.contains k then none else (lookM ms k).map (Ob.scr Y) := by
    intro Y'
    induction Y' with
    | nil => simpa using (congrFun (lookM_map (Ob.scr Y) ms) k).symm
    | cons y Y' ih =>
      simp only [List.map_cons, List.cons_append, lookM, ih, List.contains_cons]
      by_cases e : k = y
      · simp [e]
      · have : (k == y) = false := by simpa using e
        simp [e, this]
  exact (this Y).symm
theorem app_some (ts : List (Nat × AV)) (ms : List (Nat × Option Ob)) (d : Nat) (v : AV) (X : List Nat) (ms' : List (Nat × Option Ob)) :
    (St ts ms).app (some d) v X (lookM ms') = St ((d, v) :: ts.map fun p => (p.1, scr X p.2)) ms' := by
  have := look_map (scr X) (scr_undef X) ts
  simp only [S.app, St]
  rw [this]; rfl
theorem app_none (ts : List (Nat × AV)) (ms : List (Nat × Option Ob)) (v : AV) (X : List Nat) (ms' : List (Nat × Option Ob)) :
    (St ts ms).app none v X (lookM ms') = St (ts.map fun p => (p.1, scr X p.2)) ms' := by
  have := look_map (scr X) (scr_undef X) ts
  simp only [S.app, St]
  rw [this]
theorem app_some0 (ts : List (Nat × AV)) (ms : List (Nat × Option Ob)) (d : Nat) (v : AV) (ms' : List (Nat × Option Ob)) :
    (St ts ms).app (some d) v [] (lookM ms') = St ((d, v) :: ts) ms' := by
  rw [app_some]; simp [scr_nil]
theorem app_none0 (ts : List (Nat × AV)) (ms : List (Nat × Option Ob)) (v : AV) (ms' : List (Nat × Option Ob)) :
    (St ts ms).app none v [] (lookM ms') = St ts ms' := by
  rw [app_none]; simp [scr_nil]
theorem St_tm (ts : List (Nat × AV)) (ms : List (Nat × Option Ob)) (t : Nat) : (St ts ms).tm t = look ts t := rfl
theorem St_M (ts : List (Nat × AV)) (ms : List (Nat × Option Ob)) : (St ts ms).M = lookM ms := rfl
theorem St_mk (ts : List (Nat × AV)) (ms : List (Nat × Option Ob)) : (⟨look ts, lookM ms⟩ : S) = St ts ms := rfl
def callL (ts : List (Nat × AV)) (ms : List (Nat × Option Ob)) (ks : List Nat) (d : Nat) (Ms' OW : List Ob) : List (Nat × Option Ob) :=
  (ks.map fun k => (k, (Ms'[ks.idxOf k]?).map (Ob.ren (rb ks d)))) ++ ((List.range OW.length).map fun j => (2000 + 8 * d + j, (OW[j]?).map (Ob.ren (rb ks d)))) ++ ms.map fun p => (p.1, p.2.map (Ob.scr (callX (St ts ms) ks)))
theorem lookM_append (k : Nat) (g : Nat → Option Ob) : ∀ (l : List Nat) (ms : List (Nat × Option Ob)), lookM (l.map (fun j => (j, g j)) ++ ms) k = if k ∈ l then g k else lookM ms k
  | [], ms => by simp
  | x :: l, ms => by
    simp only [List.map_cons, List.cons_append, lookM, lookM_append k g l ms, List.mem_cons]
    by_cases e : k = x
    · simp [e]
    · simp [e]
theorem callM_lookM (ts : List (Nat × AV)) (ms : List (Nat × Option Ob)) (ks : List Nat) (d : Nat) (Ms' OW : List Ob) : callM (St ts ms) ks d Ms' OW = lookM (callL ts ms ks d Ms' OW) := by
  funext k
  unfold callM callL
  rw [List.append_assoc, lookM_append k (fun k => (Ms'[ks.idxOf k]?).map (Ob.ren (rb ks d)))]
  by_cases hk : k ∈ ks
  · rw [if_pos (by simpa using hk), if_pos hk]
  rw [if_neg (by simpa using hk), if_neg hk]
  have e : ((List.range OW.length).map fun j => (2000 + 8 * d + j, (OW[j]?).map (Ob.ren (rb ks d)))) = (((List.range OW.length).map fun j => 2000 + 8 * d + j).map fun k => (k, (OW[k - (2000 + 8 * d)]?).map (Ob.ren (rb ks d)))) := by
    rw [List.map_map]
    refine List.map_congr_left fun j _ => ?_
    simp only [Function.comp]
    rw [show 2000 + 8 * d + j - (2000 + 8 * d) = j by omega]
  rw [e, lookM_append k (fun k => (OW[k - (2000 + 8 * d)]?).map (Ob.ren (rb ks d)))]
  have hm : (k ∈ (List.range OW.length).map fun j => 2000 + 8 * d + j) ↔ (2000 + 8 * d ≤ k ∧ k < 2000 + 8 * d + OW.length) := by
    simp only [List.mem_map, List.mem_range]
    constructor
    · rintro ⟨j, hj, rfl⟩; omega
    · rintro ⟨h1, h2⟩; exact ⟨k - (2000 + 8 * d), by omega, by omega⟩
  by_cases hown : 2000 + 8 * d ≤ k ∧ k < 2000 + 8 * d + OW.length
  · rw [if_pos hown, if_pos (hm.2 hown)]
  · rw [if_neg hown, if_neg fun h => hown (hm.1 h)]
    exact congrFun (lookM_map (Ob.scr (callX (St ts ms) ks)) ms) k
theorem callX_nil (s : S) : callX s [] = [] := rfl
theorem callL_nil (ts : List (Nat × AV)) (ms : List (Nat × Option Ob)) (d : Nat) : callL ts ms [] d [] [] = ms := by
  have : ∀ l : List (Nat × Option Ob), l.map (fun p => (p.1, p.2.map (Ob.scr []))) = l := by
    intro l
    induction l with
    | nil => rfl
    | cons p l ih =>
      obtain ⟨k, o⟩ := p
      cases o with
      | none => simp [ih]
      | some o => simp [ih, Ob.scr_nil]
  simp [callL, callX_nil, this]
def G (cx : Ctx) (s s' : S) : Prop := ∀ a w, Sim cx s a w → Sim cx s' a w
theorem G.refl (cx : Ctx) (s : S) : G cx s s := fun _ _ h => h
theorem G.trans {cx : Ctx} {s s' s'' : S} (h : G cx s s') (h' : G cx s' s'') : G cx s s'' := fun a w hs => h' a w (h a w hs)
theorem W_ghost {P : Program} {cx : Ctx} {c : Code} {s s' : S} {Q : Exit → S → Prop} (h : G cx s s') (hw : W P cx c s' Q) : W P cx c s Q := fun a w hs => hw a w (h a w hs)
def subOk (ts : List (Nat × AV)) (ms : List (Nat × Option Ob)) (s : S) : Prop :=
  (∀ p ∈ ts, s.tm p.1 = p.2) ∧ (∀ p ∈ ms, s.M p.1 = p.2) ∧ (∀ p ∈ ts, ∀ k ∈ p.2.keys, k ∈ ms.map (·.1)) ∧ ∀ p ∈ ms, ∀ o, p.2 = some o → ∀ k ∈ o.keys, k ∈ ms.map (·.1)
theorem look_mem : ∀ (ts : List (Nat × AV)) (t : Nat), look ts t = .undef ∧ t ∉ ts.map (·.1) ∨ ∃ p ∈ ts, p.1 = t ∧ look ts t = p.2
  | [], t => .inl ⟨rfl, by simp⟩
  | (k, v) :: l, t => by
    by_cases e : t = k
    · exact .inr ⟨(k, v), by simp, e.symm, by simp [look, e]⟩
    · rcases look_mem l t with ⟨h1, h2⟩ | ⟨p, h1, h2, h3⟩
      · exact .inl ⟨by simp [look, e, h1], by simp at h2 ⊢; exact ⟨e, h2⟩⟩
      · exact .inr ⟨p, by simp [h1], h2, by simp [look, e, h3]⟩
theorem lookM_mem : ∀ (ts : List (Nat × Option Ob)) (t : Nat), lookM ts t = none ∧ t ∉ ts.map (·.1) ∨ ∃ p ∈ ts, p.1 = t ∧ lookM ts t = p.2
  | [], t => .inl ⟨rfl, by simp⟩
  | (k, v) :: l, t => by
    by_cases e : t = k
    · exact .inr ⟨(k, v), by simp, e.symm, by simp [lookM, e]⟩
    · rcases lookM_mem l t with ⟨h1, h2⟩ | ⟨p, h1, h2, h3⟩
      · exact .inl ⟨by simp [lookM, e, h1], by simp at h2 ⊢; exact ⟨e, h2⟩⟩
      · exact .inr ⟨p, by simp [h1], h2, by simp [lookM, e, h3]⟩
theorem G_sub {cx : Ctx} {s : S} (ts : List (Nat × AV)) (ms : List (Nat × Option Ob)) (h : subOk ts ms s) : G cx s (St ts ms) := by
  rintro a w ⟨St0, bl, hs⟩
  obtain ⟨h1, h2, h3, h4⟩ := h
  have := hs.keep (ts.map (·.1)) (ms.map (·.1)) ⟨fun t ht k hk => ?_, fun k hk o ho k' hk' => ?_⟩
  · refine ⟨St0, bl, ?_⟩
    have e1 : keepT (ts.map (·.1)) s.tm = look ts := by
      funext t
      unfold keepT
      rcases look_mem ts t with ⟨g1, g2⟩ | ⟨p, g1, g2, g3⟩
      · rw [if_neg (by simpa using g2), g1]
      · rw [if_pos (by simp only [List.contains_eq_mem]; simp; exact ⟨p.2, by rw [← g2]; exact g1⟩), g3, ← g2, h1 p g1]
    have e2 : keepM (ms.map (·.1)) s.M = lookM ms := by
      funext t
      unfold keepM
      rcases lookM_mem ms t with ⟨g1, g2⟩ | ⟨p, g1, g2, g3⟩
      · rw [if_neg (by simpa using g2), g1]
      · rw [if_pos (by simp only [List.contains_eq_mem]; simp; exact ⟨p.2, by rw [← g2]; exact g1⟩), g3, ← g2, h2 p g1]
    rw [e1, e2] at this
    exact this
  · obtain ⟨p, hp, rfl⟩ := List.mem_map.1 ht
    rw [h1 p hp] at hk
    exact h3 p hp k hk
  · obtain ⟨p, hp, rfl⟩ := List.mem_map.1 hk
    exact h4 p hp o (by rw [← h2 p hp]; exact ho) k' hk'
theorem W_loop_to {P : Program} {cx : Ctx} {c : Code} {s : S} {Q : Exit → S → Prop} {α : Type} (ts : α → List (Nat × AV)) (ms : α → List (Nat × Option Ob)) (m : α → Nat) (I : α → Prop) (x0 : α) (h0 : I x0) (hs : subOk (ts x0) (ms x0) s)
    (round : ∀ x, I x → W P cx c (St (ts x) (ms x)) (fun e s' => match e with
      | .normal => ∃ x', m x' < m x ∧ I x' ∧ ∃ s'', G cx s' s'' ∧ subOk (ts x') (ms x') s''
      | e => Q e s')) : W P cx (.loop c) s Q := by
  refine W_loop (fun k s => ∃ x, m x = k ∧ I x ∧ ∃ s'', G cx s s'' ∧ subOk (ts x) (ms x) s'') (m x0) ⟨x0, rfl, h0, s, G.refl _ _, hs⟩ fun k s ⟨x, hk, hI, s2, hg, hsub⟩ => ?_
  refine W_ghost (hg.trans (G_sub _ _ hsub)) (W_mono (round x hI) fun e s' h => ?_)
  cases e with
  | normal =>
    obtain ⟨x', h1, h2, h3⟩ := h
    exact ⟨m x', by omega, x', rfl, h2, h3⟩
  | _ => exact h
theorem G_adopt {cx : Ctx} {ts : List (Nat × AV)} {ms : List (Nat × Option Ob)} (t k sz : Nat) (ht : look ts t = .full []) (hk : lookM ms k = none) (hr : 2000 ≤ k ∨ k < 1000) : G cx (St ts ms) (St ((t, .ref k 0 0) :: ts) ((k, some (.row sz [])) :: ms)) := by
  rintro a w ⟨St0, bl, hs⟩
  have mv : Mv w St0 (lookM ms) bl w St0 (upd (lookM ms) k (some (Ob.row sz []))) (upd bl k ⟨none, 0, 0, 0⟩) (· ∈ ([] : List Nat)) := by
    refine ⟨fun b hb => ⟨hb, rfl⟩, fun b _ hf => ⟨fun k' o hm => ?_, rfl⟩, Nat.le_refl _, fun k' o _ hm => ?_⟩
    · by_cases e : k' = k
      · subst e; rw [upd_same]; simp
      · rw [upd_ne _ _ e] at hm ⊢; exact hf k' o hm
    · have e : k' ≠ k := by intro e; subst e; rw [hk] at hm; cases hm
      exact ⟨⟨o, by rw [upd_ne _ _ e]; exact hm, o.like_refl⟩, upd_ne _ _ e⟩
  have hsome : ∀ {k' o}, k' ≠ k → upd (lookM ms) k (some (Ob.row sz [])) k' = some o → lookM ms k' = some o := fun e h => by rw [upd_ne _ _ e] at h; exact h
  refine ⟨St0, upd bl k ⟨none, 0, 0, 0⟩, ⟨?_, ?_, fun t' => ?_, hs.n, hs.df⟩⟩
  · refine hs.mem.mv mv (fun b hb => ⟨(hs.mem.st b hb).1, (mv.fr b (hs.mem.st b hb).1 (hs.mem.st b hb).2).1⟩) (fun k' o hm => ?_) (fun k1 k2 o1 o2 b h1 h2 hb1 hb2 => ?_)
    · by_cases e : k' = k
      · subst e
        have : o = Ob.row sz [] := by
          have h : upd (lookM ms) k' (some (Ob.row sz [])) k' = some o := hm
          rw [upd_same] at h; exact (Option.some.inj h).symm
        subst this
        exact .inl (.inl ⟨by rw [upd_same], rfl, by rw [upd_same]⟩)
      · exact .inr ⟨o, hsome e hm, (Ob.scr_nil o).symm, upd_ne _ _ e, fun _ _ => rfl⟩
    · by_cases e1 : k1 = k
      · subst e1; rw [upd_same] at hb1; cases hb1
      by_cases e2 : k2 = k
      · subst e2; rw [upd_same] at hb2; cases hb2
      rw [upd_ne _ _ e1] at hb1
      rw [upd_ne _ _ e2] at hb2
      exact hs.mem.inj _ _ _ _ _ (hsome e1 h1) (hsome e2 h2) hb1 hb2
  · refine ⟨hs.frm.sz, hs.frm.pres, fun k' o b hm hb => ?_, hs.frm.st0, hs.frm.st, hs.frm.os, hs.frm.tape, hs.frm.output, fun k' cs hm h1 h2 => ?_⟩
    · by_cases e : k' = k
      · subst e; rw [upd_same] at hb; cases hb
      · rw [upd_ne _ _ e] at hb; exact hs.frm.own k' o b (hsome e hm) hb
    · have e : k' ≠ k := by omega
      rw [upd_ne _ _ e]; exact hs.frm.rb k' cs (hsome e hm) h1 h2
  · show RelV w St0 (upd (lookM ms) k (some (Ob.row sz []))) (upd bl k ⟨none, 0, 0, 0⟩) (look ((t, .ref k 0 0) :: ts) t') (a.tmps.getD t' undef)
    have h0 := hs.tm t'
    simp only [look]
    split
    · rename_i e
      subst e
      have h1 : RelV w St0 (lookM ms) bl (look ts t') (a.tmps.getD t' undef) := h0
      rw [ht] at h1
      obtain ⟨_, a1, h2⟩ := (show RelC w St0 (lookM ms) bl (.full []) _ from h1)
      rw [h2]
      exact ⟨sz, [], a1, upd_same .., by simp, by rw [upd_same]; rfl, by rw [upd_same]; simp⟩
    · exact RelV.mv mv (by simp) h0
def frzV (Y : List Nat) (M : Mm) (v : AV) : AV := match v with
  | .ref k lo len => if Y.contains k then (match M k with | some (.row _ es) => .d (.sl ((es.drop lo).take len)) | _ => .dead [k]) else .ref k lo len
  | v => scr Y v
def Ob.frz (Y : List Nat) (M : Mm) : Ob → Ob
  | .box cs => .box (cs.map (frzV Y M))
  | o => o
def frzM (Y : List Nat) (M : Mm) : Mm := fun k => if Y.contains k then none else (M k).map (Ob.frz Y M)
theorem frzM_some {Y : List Nat} {M : Mm} {k : Nat} {o' : Ob} (h : frzM Y M k = some o') : k ∉ Y ∧ ∃ o, M k = some o ∧ o' = o.frz Y M := by
  simp only [frzM] at h
  split at h
  · cases h
  · rename_i hc
    refine ⟨by simpa using hc, ?_⟩
    cases hm : M k with
    | none => rw [hm] at h; cases h
    | some o => rw [hm] at h; cases h; exact ⟨o, rfl, rfl⟩
theorem RelC_frz {w : World} {St St' : Nat → Prop} {M : Mm} {bl : Lc} {Y : List Nat} (hm : Mem w St M bl) (mv : Mv w St M bl w St' (frzM Y M) bl (· ∈ Y)) (hst : ∀ b, St b → St' b) (hY : ∀ k o b, k ∈ Y → M k = some o → (bl k).b = some b → St' b) {x : AV} {v : Value}
    (h : RelC w St M bl x v) : RelC w St' (frzM Y M) bl (frzV Y M x) v := by
  have other : RelC w St' (frzM Y M) bl (scr Y x) v := by
    rcases scr_cases Y x with e | ⟨e, hn⟩
    · rw [e]; trivial
    · rw [e]; exact RelC.mv mv (fun k hk => hn k (keys1_sub k hk)) h
  cases x with
  | ref k lo len =>
    simp only [frzV]
    split
    · rename_i hk
      have hk : k ∈ Y := by simpa using hk
      obtain ⟨sz, es, a, hkm, h1, h2, h3⟩ := h
      rw [hkm]
      exact ref_data hm hst (fun b hb => hY k _ b hk hkm hb) hkm ⟨sz, es, a, hkm, h1, h2, h3⟩
    · rename_i hk
      exact RelC.mv mv (fun k' hk' => by
        have : k' = k := by simpa [AV.keys1] using hk'
        subst this; simpa using hk) h
  | _ => exact other
theorem G_freeze {cx : Ctx} {s : S} (Y : List Nat) (hY : ∀ k ∈ Y, ¬ (1000 ≤ k ∧ k < 2000)) : G cx s ⟨fun t => frzV Y s.M (s.tm t), frzM Y s.M⟩ := by
  rintro a w ⟨St0, bl, hs⟩
  obtain ⟨St', h1, h2, mv0, mem0, frm0⟩ := hs.freeze Y hY
  have hfree : ∀ b, Free (dropM Y s.M) bl b → Free (frzM Y s.M) bl b := fun b hf k o hm => by
    obtain ⟨hk, o2, hm2, _⟩ := frzM_some hm
    exact hf k (o2.scr Y) (by simp only [dropM]; rw [if_neg (by simpa using hk), hm2]; rfl)
  have mv : Mv w St0 s.M bl w St' (frzM Y s.M) bl (· ∈ Y) :=
    ⟨mv0.st, fun b hb hf => ⟨hfree b (mv0.fr b hb hf).1, rfl⟩, Nat.le_refl _, fun k o hx hm => ⟨⟨o.frz Y s.M, by simp only [frzM]; rw [if_neg (by simpa using hx), hm]; rfl, by cases o <;> simp [Ob.like, Ob.frz]⟩, rfl⟩⟩
  refine ⟨St', bl, ⟨⟨fun b hb => ⟨(mem0.st b hb).1, hfree b (mem0.st b hb).2⟩, fun k o' hm => ?_, fun k1 k2 o1 o2 b g1 g2 => ?_⟩, ?_, fun t => ?_, hs.n, hs.df⟩⟩
  · obtain ⟨_, o, hm2, rfl⟩ := frzM_some hm
    have h0 := hs.mem.ob k o hm2
    cases o with
    | raw x => exact h0
    | row sz es =>
      rcases h0 with h0 | ⟨b, c, e, g0, g1, g2, g3, g4, g5, g6⟩
      · exact .inl h0
      · exact .inr ⟨b, c, e, g0, g1, g2, g3, g4, g5, g6.mv (fun b hb => ⟨h1 b hb, rfl⟩) rfl⟩
    | box cs =>
      obtain ⟨b, c, e, g1, g2, g3, g4⟩ := h0
      exact ⟨b, c, e, g1, g2, g3, all2_ren g4 fun x v _ hr => RelC_frz hs.mem mv h1 h2 hr⟩
  · obtain ⟨_, o1', h1', _⟩ := frzM_some g1
    obtain ⟨_, o2', h2', _⟩ := frzM_some g2
    exact hs.mem.inj _ _ _ _ _ h1' h2'
  · refine ⟨frm0.sz, frm0.pres, fun k o b hm hb => ?_, frm0.st0, frm0.st, frm0.os, frm0.tape, frm0.output, fun k cs hm g1 g2 => ?_⟩
    · obtain ⟨_, o2, hm2, _⟩ := frzM_some hm
      exact hs.frm.own k o2 b hm2 hb
    · obtain ⟨_, o2, hm2, ho⟩ := frzM_some hm
      exact hs.frm.rb k o2 hm2 g1 g2
  · have h0 := hs.tm t
    by_cases hx : (∃ cs, s.tm t = .agg cs) ∨ ∃ cs, s.tm t = .tup cs
    · have : frzV Y s.M (s.tm t) = scr Y (s.tm t) := by rcases hx with ⟨cs, e⟩ | ⟨cs, e⟩ <;> rw [e] <;> rfl
      show RelV w St' (frzM Y s.M) bl (frzV Y s.M (s.tm t)) _
      rw [this]
      rcases scr_cases Y (s.tm t) with e | ⟨e, hn⟩
      · rw [e]; trivial
      · rw [e]; exact RelV.mv mv hn h0
    · have n1 : ∀ cs, s.tm t ≠ .agg cs := fun cs e => hx (.inl ⟨cs, e⟩)
      have n2 : ∀ cs, s.tm t ≠ .tup cs := fun cs e => hx (.inr ⟨cs, e⟩)
      rw [(RelV_t n2 _).1, (RelT_c n1 _).1] at h0
      exact RelV.of_c (RelC_frz hs.mem mv h1 h2 h0)
end Go.Pw

namespace Go.Pw
open Go
def enumA : Nat → List AV → List (Nat × AV)
  | _, [] => []
  | i, x :: xs => (i, x) :: enumA (i + 1) xs
def enumO : Nat → List Ob → List (Nat × Option Ob)
  | _, [] => []
  | i, x :: xs => (i, some x) :: enumO (i + 1) xs
theorem look_enum : ∀ (xs : List AV) (i t : Nat), look (enumA i xs) t = if i ≤ t then (xs[t - i]?).getD .undef else .undef
  | [], i, t => by simp [enumA, look]
  | x :: xs, i, t => by
    simp only [enumA, look, look_enum xs (i + 1) t]
    by_cases e : t = i
    · subst e; simp
    · rw [if_neg e]
      by_cases h : i ≤ t
      · rw [if_pos h, if_pos (by omega), show t - i = (t - (i + 1)) + 1 by omega]; simp
      · rw [if_neg h, if_neg (by omega)]
theorem lookM_enum : ∀ (xs : List Ob) (i t : Nat), lookM (enumO i xs) t = if i ≤ t then xs[t - i]? else none
  | [], i, t => by simp [enumO, lookM]
  | x :: xs, i, t => by
    simp only [enumO, lookM, lookM_enum xs (i + 1) t]
    by_cases e : t = i
    · subst e; simp
    · rw [if_neg e]
      by_cases h : i ≤ t
      · rw [if_pos h, if_pos (by omega), show t - i = (t - (i + 1)) + 1 by omega]; simp
      · rw [if_neg h, if_neg (by omega)]
def notTup : AV → Bool
  | .tup _ => false
  | _ => true
inductive RV where
  | tmp (t : Nat)
  | cell (t ty : Nat)
def RV.to : RV → ResultVar
  | .tmp t => .tmp t
  | .cell t ty => .cell t ty
def RV.av (T : Tab) (s : S) : RV → AV
  | .tmp t => s.tm t
  | .cell t ty => match s.tm t, T ty with
    | .ptr k 0 0, some ti => match s.M k with
      | some (.box cs) => ofCells ti.ds.agg cs
      | _ => .undef
    | _, _ => .undef
def RV.ok (T : Tab) (s : S) : RV → Bool
  | .tmp _ => true
  | .cell t ty => match s.tm t, T ty with
    | .ptr k 0 0, some ti => match s.M k with
      | some (.box cs) => cs.length == ti.size && !cs.any AV.isU
      | _ => false
    | _, _ => false
def resAV (T : Tab) (rs : List RV) (s : S) : AV := match rs with
  | [r] => r.av T s
  | rs => .tup (rs.map (RV.av T s))
def RV.run (tmps : Array Value) : ResultVar → Sem Value
  | .tmp t => pure (tmps.getD t undef)
  | .cell a t => do loadVar t (← asAddr (tmps.getD a undef))
theorem rv_run {P : Program} {T : Tab} (hT : TyOk P T) {cx : Ctx} {s : S} {a : Act} {w : World} {St : Nat → Prop} {bl : Lc} (h : Sim1 cx s a w St bl) {r : RV} (hr : r.ok T s = true) : ∃ v, (RV.run a.tmps r.to).run P w = .ok v w ∧ RelV w St s.M bl (r.av T s) v := by
  cases r with
  | tmp t => exact ⟨_, rfl, h.tm t⟩
  | cell t ty =>
    have key : ∃ k ti cs, s.tm t = .ptr k 0 0 ∧ T ty = some ti ∧ s.M k = some (.box cs) ∧ cs.length = ti.size ∧ cs.any AV.isU = false := by
      simp only [RV.ok] at hr
      split at hr
      · split at hr
        · simp only [Bool.and_eq_true, beq_iff_eq, Bool.not_eq_true'] at hr
          exact ⟨_, _, _, ‹_›, ‹_›, ‹_›, hr.1, hr.2⟩
        · cases hr
      · cases hr
    obtain ⟨k, ti, cs, ht, hty, hm, hlen, hnu⟩ := key
    have hav : RV.av T s (.cell t ty) = ofCells ti.ds.agg cs := by simp only [RV.av, ht, hty, hm]
    rw [hav]
    have hv := h.tm t
    rw [ht] at hv
    obtain ⟨b, o', hm', hb, hv⟩ := (show RelP s.M bl k 0 0 _ from hv)
    obtain ⟨b', c, e, h1, h2, h3, h4⟩ := h.mem.ob k _ hm
    rw [hb] at h1; cases h1
    have hlen2 : c.toList.length = ti.size := by rw [← h4.length]; exact hlen
    have hcell : ∀ j v, c.toList[j]? = some v → w.cell? ⟨b, 0 + j, none⟩ = some v := fun j v hj => by
      rw [cell_of_row w b (0 + j) c e (0, 0) h3]; simpa using hj
    obtain ⟨i, z, ds, hty'⟩ := hT.get hty
    refine ⟨if ti.ds.agg then .agg c.toList.toArray else c.toList.headD undef, ?_, ?_⟩
    · simp only [RV.to, RV.run, Sem.run_bind, hv, asAddr, h2, Nat.zero_mul, Nat.zero_add]
      have := load_run (P := P) (w := w) hT hty b 0 c.toList hlen2 hcell
      simpa [Instr.loadAt, Instr.sureAddr] using this
    · exact ofCells_rel (agg := ti.ds.agg) h4 (fun ha => by rw [hlen]; exact hty'.size1 ha) hnu
theorem rvs_run {P : Program} {T : Tab} (hT : TyOk P T) {cx : Ctx} {s : S} {a : Act} {w : World} {St : Nat → Prop} {bl : Lc} (h : Sim1 cx s a w St bl) : ∀ (rs : List RV), rs.all (RV.ok T s) = true → ∃ vs : List Value, ((rs.map RV.to).mapM (RV.run a.tmps)).run P w = .ok vs w ∧ All2 (RelV w St s.M bl) (rs.map (RV.av T s)) vs
  | [], _ => ⟨[], rfl, .nil⟩
  | r :: rs, hr => by
    simp only [List.all_cons, Bool.and_eq_true] at hr
    obtain ⟨v, h1, h2⟩ := rv_run hT h hr.1
    obtain ⟨vs, h3, h4⟩ := rvs_run hT h rs hr.2
    exact ⟨v :: vs, by rw [List.map_cons, List.mapM_cons]; simp only [Sem.run_bind, h1, Result.andThen, h3]; rfl, .cons h2 h4⟩
theorem results_run {P : Program} {T : Tab} (hT : TyOk P T) {cx : Ctx} {s : S} {a : Act} {w : World} {St : Nat → Prop} {bl : Lc} (h : Sim1 cx s a w St bl) {fn : Func} {rs : List RV} (hrs : fn.results = (rs.map RV.to).toArray) (hok : rs.all (RV.ok T s) = true) (hfl : rs.length = 1 ∨ ∀ r ∈ rs, notTup (r.av T s) = true) :
    ∃ v, (results fn a.tmps).run P w = .ok v w ∧ RelV w St s.M bl (resAV T rs s) v := by
  obtain ⟨vs, h1, h2⟩ := rvs_run hT h rs hok
  have hrun : (results fn a.tmps).run P w = .ok (if h : vs.toArray.size = 1 then vs.toArray[0] else .tuple vs.toArray) w := by
    have e : (results fn a.tmps) = (do let vs ← fn.results.mapM (RV.run a.tmps); pure (if h : vs.size = 1 then vs[0] else .tuple vs)) := by
      unfold results
      exact congrArg (fun f => (do let vs ← fn.results.mapM f; pure (if h : vs.size = 1 then vs[0] else .tuple vs) : Sem Value)) (funext fun r => by cases r <;> rfl)
    rw [e, hrs, List.mapM_toArray]
    simp only [Sem.run_bind, Sem.run_map, h1, Result.andThen, Sem.run_pure]
  refine ⟨_, hrun, ?_⟩
  have hl := h2.length
  rw [List.length_map] at hl
  unfold resAV
  split
  · rename_i r
    cases h2 with
    | cons hr ht =>
      cases ht
      exact hr
  · rename_i hne
    have hl1 : rs.length ≠ 1 := fun e => by
      obtain ⟨t, rfl⟩ := List.length_eq_one_iff.1 e
      exact hne t rfl
    rw [dif_neg (by simp; omega)]
    refine ⟨vs, rfl, ?_⟩
    rcases hfl with hfl | hfl
    · exact absurd hfl hl1
    · have hall : ∀ (l : List AV) (vs : List Value), All2 (RelV w St s.M bl) l vs → (∀ x ∈ l, notTup x = true) → All2 (RelT w St s.M bl) l vs := by
        intro l vs h
        induction h with
        | nil => intro _; exact .nil
        | cons hr _ ih =>
          intro hx
          refine .cons ?_ (ih fun x hx' => hx x (by simp [hx']))
          have h1 := hx _ (List.mem_cons_self ..)
          rwa [(RelV_t (fun cs e => by rw [e] at h1; cases h1) _).1] at hr
      refine hall _ _ h2 fun x hx => ?_
      obtain ⟨r, hr, rfl⟩ := List.mem_map.1 hx
      exact hfl r hr
def fk (os : List Nat) (k : Nat) : Nat := if 1000 ≤ k ∧ k < 2000 then k else 2000 + os.idxOf k
structure Fin (T : Tab) (rs : List RV) (n : Nat) (r : AV) (Ms' OW : List Ob) (s : S) (os : List Nat) : Prop where
  nd : os.Nodup
  own : ∀ k ∈ os, ¬ (1000 ≤ k ∧ k < 2000)
  rows : os.map s.M = OW.map some
  roots : (List.range n).map (fun j => (s.M (1000 + j)).map (Ob.ren (fk os))) = Ms'.map some
  rootk : ∀ j < n, ∀ o, s.M (1000 + j) = some o → ∀ k ∈ o.keys, k ∈ os ∨ (1000 ≤ k ∧ k < 1000 + n)
  res : (resAV T rs s).ren (fk os) = r
  resk : ∀ k ∈ (resAV T rs s).keys, k ∈ os ∨ (1000 ≤ k ∧ k < 1000 + n)
  flat : rs.length = 1 ∨ ∀ x ∈ rs, notTup (x.av T s) = true
  good : rs.all (RV.ok T s) = true
def finQ (T : Tab) (cx : Ctx) (rs : List RV) (n : Nat) (r : AV) (Ms' OW : List Ob) : Exit → S → Prop
  | .normal, s | .ret, s => ∃ s' os, G cx s s' ∧ Fin T rs n r Ms' OW s' os
  | _, _ => False
theorem fin_ok {P : Program} {T : Tab} (hT : TyOk P T) {fn : Func} {cx : Ctx} {rs : List RV} (hrs : fn.results = (rs.map RV.to).toArray) {w0 : World} {n0 : Nat} {St0 : Nat → Prop} {bl0 : Lc} {Ms : List Ob} (hcx : cx = Cx n0 w0 St0 Ms bl0) (hlen : Ms.length ≤ 1000) {r : AV} {Ms' OW : List Ob} (hrows : OW.all (fun o => !o.isBox) = true) (hclean : Ms'.all Ob.clean = true ∧ r.clean = true)
    {s : S} {os : List Nat} (h : Fin T rs Ms.length r Ms' OW s os) {a : Act} {w : World} (hs : Sim cx s a w) :
    ∃ v St' bl', (results fn a.tmps).run P w = .ok v w ∧ Mem w St' (resM Ms' OW) bl' ∧ RelV w St' (resM Ms' OW) bl' r v ∧ Frm (Cx 0 w0 St0 Ms bl0) w St' (resM Ms' OW) bl' := by
  obtain ⟨St1, bl, hs⟩ := hs
  have hMs' : Ms'.length = Ms.length := by simpa using (congrArg List.length h.roots).symm
  have hOW : os.length = OW.length := by simpa using congrArg List.length h.rows
  have hfk : ∀ k, k ∈ os → fk os k = 2000 + os.idxOf k := fun k hk => by unfold fk; rw [if_neg (h.own k hk)]
  have hroot : ∀ j o', Ms'[j]? = some o' → j < Ms.length ∧ ∃ o, s.M (1000 + j) = some o ∧ o' = o.ren (fk os) := by
    intro j o' hj
    have hl : j < Ms.length := by rw [← hMs']; exact (List.getElem?_eq_some_iff.1 hj).1
    have h2 := congrArg (fun l => l[j]?) h.roots
    simp only [List.getElem?_map, hj, List.getElem?_range hl, Option.map_some] at h2
    have h3 := Option.some.inj h2
    cases hm : s.M (1000 + j) with
    | none => rw [hm] at h3; cases h3
    | some o => rw [hm] at h3; exact ⟨hl, o, rfl, (Option.some.inj h3).symm⟩
  have hown : ∀ j o', OW[j]? = some o' → ∃ k, os[j]? = some k ∧ k ∈ os ∧ fk os k = 2000 + j ∧ s.M k = some o' := by
    intro j o' hj
    have hl : j < os.length := by rw [hOW]; exact (List.getElem?_eq_some_iff.1 hj).1
    have h2 := congrArg (fun l => l[j]?) h.rows
    simp only [List.getElem?_map, hj, List.getElem?_eq_getElem hl, Option.map_some] at h2
    refine ⟨os[j], List.getElem?_eq_getElem hl, List.getElem_mem hl, ?_, Option.some.inj h2⟩
    rw [hfk _ (List.getElem_mem hl), List.Nodup.idxOf_getElem h.nd j hl]
  -- the places of the objects, called otherwise
  let bl' : Lc := fun k => if k < 2000 then bl k else bl (os.getD (k - 2000) 0)
  have hobs : ∀ k o', resM Ms' OW k = some o' → ∃ k0 o, s.M k0 = some o ∧ o' = o.ren (fk os) ∧ bl' k = bl k0 ∧ k = fk os k0 ∧ (k0 ∈ os ∧ (∀ cs, o ≠ .box cs) ∨ (1000 ≤ k0 ∧ k0 < 1000 + Ms.length)) := by
    intro k o' hk
    unfold resM at hk
    split at hk
    · rename_i hr
      obtain ⟨hl, o, ho, rfl⟩ := hroot _ _ hk
      have e : 1000 + (k - 1000) = k := by omega
      rw [e] at ho
      exact ⟨k, o, ho, rfl, by simp [bl', hr.2], by unfold fk; rw [if_pos hr], .inr (by omega)⟩
    · split at hk
      · rename_i hr
        obtain ⟨k0, g1, g2, g3, g4⟩ := hown _ _ hk
        have hnb : ∀ cs, o' ≠ .box cs := by
          rintro cs rfl
          have := List.all_eq_true.1 hrows _ (List.mem_of_getElem? hk)
          simp [Ob.isBox] at this
        refine ⟨k0, o', g4, ?_, ?_, by omega, .inl ⟨g2, hnb⟩⟩
        · cases o' with
          | box cs => exact absurd rfl (hnb cs)
          | row => rfl
          | raw => rfl
        · have : ¬ k < 2000 := by omega
          simp only [bl', if_neg this, List.getD_eq_getElem?_getD, g1]; rfl
      · cases hk
  have hfree : ∀ b, Free s.M bl b → Free (resM Ms' OW) bl' b := by
    intro b hf k o' hk hb
    obtain ⟨k0, o, g1, _, g3, _⟩ := hobs k o' hk
    rw [g3] at hb
    exact hf k0 o g1 hb
  have hren : Ren s.M bl (resM Ms' OW) bl' (fk os) (fun k => k ∈ os ∨ (1000 ≤ k ∧ k < 1000 + Ms.length)) := by
    refine ⟨fun k o hk hm => ?_⟩
    rcases hk with hk | hk
    · have hl := List.idxOf_lt_length_of_mem hk
      have h2 := congrArg (fun l => l[os.idxOf k]?) h.rows
      simp only [List.getElem?_map, idxOf_get hk, Option.map_some, hm] at h2
      cases hj : OW[os.idxOf k]? with
      | none => rw [hj] at h2; cases h2
      | some o' =>
        rw [hj] at h2
        have := Option.some.inj (Option.some.inj h2)
        subst this
        refine ⟨⟨o, ?_, by cases o <;> simp [Ob.sameRow]⟩, ?_⟩
        · rw [hfk k hk]; unfold resM; rw [if_neg (by omega), if_pos (by omega), show 2000 + os.idxOf k - 2000 = os.idxOf k by omega]; exact hj
        · rw [hfk k hk]
          have : ¬ 2000 + os.idxOf k < 2000 := by omega
          simp only [bl', if_neg this]
          rw [show 2000 + os.idxOf k - 2000 = os.idxOf k by omega, List.getD_eq_getElem?_getD, idxOf_get hk]; rfl
    · have e : fk os k = k := by unfold fk; rw [if_pos (by omega)]
      rw [e]
      have hj : (Ms'[k - 1000]?) = some (o.ren (fk os)) := by
        have h2 := congrArg (fun l => l[k - 1000]?) h.roots
        simp only [List.getElem?_map, List.getElem?_range (show k - 1000 < Ms.length by omega), Option.map_some] at h2
        rw [show 1000 + (k - 1000) = k by omega, hm] at h2
        cases hj : Ms'[k - 1000]? with
        | none => rw [hj] at h2; cases h2
        | some o' => rw [hj] at h2; rw [← Option.some.inj (Option.some.inj h2)]
      refine ⟨⟨o.ren (fk os), ?_, by cases o <;> simp [Ob.sameRow, Ob.ren]⟩, ?_⟩
      · unfold resM; rw [if_pos (by omega)]; exact hj
      · have : k < 2000 := by omega
        simp only [bl', if_pos this]
  obtain ⟨rv, hrun, hrel⟩ := results_run hT hs hrs h.good h.flat
  refine ⟨rv, St1, bl', hrun, ⟨fun b hb => ⟨(hs.mem.st b hb).1, hfree b (hs.mem.st b hb).2⟩, fun k o' hk => ?_, fun k1 k2 o1 o2 b h1 h2 hb1 hb2 => ?_⟩, ?_, ?_⟩
  · obtain ⟨k0, o, g1, rfl, g3, g4, g5⟩ := hobs k o' hk
    have h0 := hs.mem.ob k0 o g1
    cases o with
    | raw x =>
      obtain ⟨b, q1, q2, q3⟩ := h0
      exact ⟨b, by rw [g3]; exact q1, by rw [g3]; exact q2, q3⟩
    | row sz es =>
      rcases h0 with ⟨q1, q2, q3⟩ | ⟨b, c, e, q0, q1, q2, q3, q4, q5, q6⟩
      · exact .inl ⟨by rw [g3]; exact q1, q2, by rw [g3]; exact q3⟩
      · exact .inr ⟨b, c, e, by rw [g3]; exact q0, by rw [g3]; exact q1, q2, by rw [g3]; exact q3, by rw [g3]; exact q4, by rw [g3]; exact q5, by rw [g3]; exact q6⟩
    | box cs =>
      obtain ⟨b, c, e, q1, q2, q3, q4⟩ := h0
      rcases g5 with ⟨_, g5⟩ | g5
      · exact absurd rfl (g5 cs)
      refine ⟨b, c, e, by rw [g3]; exact q1, by rw [g3]; exact q2, q3, all2_ren q4 fun x v hx hr => RelC.ren hren (fun k' hk' => ?_) (.inr fun b _ hf => hfree b hf) hr⟩
      have e1 : 1000 + (k0 - 1000) = k0 := by omega
      exact h.rootk (k0 - 1000) (by omega) (.box cs) (by rw [e1]; exact g1) k' (List.mem_flatMap.2 ⟨x, hx, keys1_sub _ hk'⟩)
  · obtain ⟨q1, p1, g1, _, b1, e1, _⟩ := hobs k1 o1 h1
    obtain ⟨q2, p2, g2, _, b2, e2, _⟩ := hobs k2 o2 h2
    rw [b1] at hb1; rw [b2] at hb2
    have := hs.mem.inj _ _ _ _ _ g1 g2 hb1 hb2
    subst this
    rw [e1, e2]
  · rw [← h.res]
    exact RelV.ren hren h.resk (.inr fun b _ hf => hfree b hf) hrel
  · have frm := hs.frm
    rw [hcx] at frm
    refine ⟨frm.sz, frm.pres, fun k o' b hk hb => ?_, frm.st0, frm.st, frm.os, frm.tape, frm.output, fun k cs hk h1 h2 => ?_⟩
    · obtain ⟨k0, o, g1, _, g3, g4, g5⟩ := hobs k o' hk
      rw [g3] at hb
      rcases frm.own k0 o b g1 hb with q | ⟨q1, q2, q3⟩
      · exact .inl q
      · have e : fk os k0 = k0 := by unfold fk; rw [if_pos ⟨q1, q2⟩]
        rw [g4, e]; exact .inr ⟨q1, q2, q3⟩
    · obtain ⟨k0, o, g1, g2, g3, g4, g5⟩ := hobs k _ hk
      have e : k0 = k := by
        rcases g5 with ⟨g5, _⟩ | g5
        · have := hfk k0 g5; omega
        · rw [g4]; unfold fk; rw [if_pos (by omega)]
      subst e
      rw [g3]; exact frm.rb k0 o g1 h1 h2
theorem C_intro {P : Program} {T : Tab} (hT : TyOk P T) {f : Nat} {fn : Func} {c : Code} {rs : List RV} {args : List AV} {Ms : List Ob} {r : AV} {Ms' OW : List Ob}
    (hf : P.funcs[f]? = some fn) (hb : fn.body = some c) (hname : (fn.name == "runtime.NumGoroutine") = false) (hrs : fn.results = (rs.map RV.to).toArray)
    (hargs : args.length ≤ fn.ntmps) (hlen : Ms.length ≤ 1000) (hkind : Ms'.map Ob.shape = Ms.map Ob.shape) (hclean : Ms'.all Ob.clean = true ∧ r.clean = true) (hrows : OW.all (fun o => !o.isBox) = true)
    (h : ∀ cx : Ctx, cx.n = fn.ntmps → W P cx c (St (enumA 0 args) (enumO 1000 Ms)) (finQ T cx rs Ms.length r Ms' OW)) : C P f args Ms r Ms' OW := by
  refine ⟨⟨fn, hf, hname, by rw [hb]; rfl⟩, hkind, hclean, hrows, fun w St0 bl cargs hmem hrel => ?_⟩
  have hroot : lookM (enumO 1000 Ms) = rootM Ms := by
    funext k
    rw [lookM_enum]
    unfold rootM
    by_cases h1 : 1000 ≤ k
    · by_cases h2 : k < 2000
      · rw [if_pos h1, if_pos ⟨h1, h2⟩]
      · rw [if_pos h1, if_neg (by omega), List.getElem?_eq_none (by omega)]
    · rw [if_neg h1, if_neg (by omega)]
  have hcl : cargs.length = args.length := hrel.length.symm
  refine calls_of_wp hf hb (wp_mono (h (Cx fn.ntmps w St0 Ms bl) rfl _ _ ?_) fun e a' w' ⟨s', hs', hq⟩ => ?_)
  · refine ⟨St0, bl, ⟨?_, ?_, fun t => ?_, ?_, rfl⟩⟩
    · show Mem w St0 (lookM (enumO 1000 Ms)) bl
      rw [hroot]; exact hmem
    · show Frm (Cx fn.ntmps w St0 Ms bl) w St0 (lookM (enumO 1000 Ms)) bl
      rw [hroot]
      refine ⟨Nat.le_refl _, fun _ _ _ => rfl, fun k o b hm hb => .inr ?_, fun _ h => h, fun _ h => .inl h, rfl, rfl, rfl, fun _ _ _ _ _ => rfl⟩
      have hk : 1000 ≤ k ∧ k < 2000 := by
        have hm' := hm
        unfold rootM at hm'
        split at hm'
        · assumption
        · cases hm'
      exact ⟨hk.1, hk.2, ⟨k, o, hm, hb⟩, hb⟩
    · show RelV w St0 (lookM (enumO 1000 Ms)) bl (look (enumA 0 args) t) _
      rw [hroot, look_enum, if_pos (Nat.zero_le t), Nat.sub_zero]
      cases ht : args[t]? with
      | none => trivial
      | some x =>
        obtain ⟨u, hu, hx⟩ := hrel.get t x ht
        have hlt : t < cargs.length := (List.getElem?_eq_some_iff.1 hu).1
        dsimp only
        rw [Array.getD_eq_getD_getElem?, Array.getElem?_append_left (by simpa using hlt)]
        simpa [hu] using hx
    · simp only [Array.size_append, List.size_toArray, Array.size_replicate]
      show cargs.length + (fn.ntmps - cargs.length) = fn.ntmps
      omega
  · have hok : ∀ s1 os, Fin T rs Ms.length r Ms' OW s1 os → Sim (Cx fn.ntmps w St0 Ms bl) s1 a' w' → a'.defers = [] ∧ ∃ v, (results fn a'.tmps).run P w' = .ok v w' ∧ ∃ v' St' bl', Ending.returned v = .returned v' ∧ Mem w' St' (resM Ms' OW) bl' ∧ RelV w' St' (resM Ms' OW) bl' r v' ∧ Frm (Cx 0 w St0 Ms bl) w' St' (resM Ms' OW) bl' := by
      intro s1 os hfin hs1
      obtain ⟨v1, St', bl', hrun, h1, h2, h3⟩ := fin_ok hT hrs rfl hlen hrows hclean hfin hs1
      obtain ⟨St2, bl2, hs2⟩ := hs1
      exact ⟨hs2.df, _, hrun, _, St', bl', rfl, h1, h2, h3⟩
    cases e with
    | normal => obtain ⟨s1, os, hg, hfin⟩ := hq; exact hok s1 os hfin (hg _ _ hs')
    | ret => obtain ⟨s1, os, hg, hfin⟩ := hq; exact hok s1 os hfin (hg _ _ hs')
    | _ => exact hq.elim
theorem fin0 {T : Tab} {rs : List RV} {s : S} {r : AV} (h : resAV T rs s = r) (hk : r.keys = []) (hfl : rs.length = 1 ∨ ∀ x ∈ rs, notTup (x.av T s) = true) (hok : rs.all (RV.ok T s) = true) (hr : r.ren (fk []) = r) : Fin T rs 0 r [] [] s [] :=
  ⟨List.nodup_nil, by simp, rfl, rfl, by simp, by rw [h, hr], by rw [h, hk]; simp, hfl, hok⟩
end Go.Pw

namespace Go.Pw
open Go
def veq : Value → Value → Bool
  | .bool a, .bool b => a == b
  | .int k a, .int k' b => decide (k = k') && decide (a = b)
  | .string a, .string b => decide (a = b)
  | .slice none a c, .slice none a' c' => a == a' && c == c'
  | .pointer none, .pointer none => true
  | .map none, .map none => true
  | .chan none, .chan none => true
  | .nilFunc, .nilFunc => true
  | .nilIface, .nilIface => true
  | _, _ => false
theorem veq_eq {a b : Value} (h : veq a b = true) : a = b := by
  unfold veq at h
  split at h <;> simp_all
def vseq : List Value → List Value → Bool
  | [], [] => true
  | a :: us, b :: bs => veq a b && vseq us bs
  | _, _ => false
theorem vseq_eq : ∀ {us bs : List Value}, vseq us bs = true → us = bs
  | [], [], _ => rfl
  | [], _ :: _, h => by cases h
  | _ :: _, [], h => by cases h
  | a :: us, b :: bs, h => by
    simp only [vseq, Bool.and_eq_true] at h
    rw [veq_eq h.1, vseq_eq h.2]
def otherB : TypeDesc → Bool
  | .struct _ => false
  | .array .. => false
  | _ => true
def dsB (P : Program) : Ds → TypeDesc → Bool
  | .sl e, .slice e' => e == e'
  | .st fs, .struct a => decide (a.toList.mapM (fun f => (P.info? f.type).map fun i => (f.offset, i.size)) = some (fs.map fun x => (x.1, x.2.2))) && decide (a.toList.map (·.type) = fs.map (·.2.1))
  | .int k, .int k' => decide (k = k')
  | .str, .string => true
  | .bool, .bool => true
  | .ptr e, .pointer e' => e == e'
  | .arr n e, .array n' e' => decide (n = n') && e == e'
  | .mp k e, .map k' e' => decide (k = k') && e == e'
  | .other, d => otherB d
  | _, _ => false
theorem otherB_ok {P : Program} {d : TypeDesc} (h : otherB d = true) : Ds.ok P .other d := by
  cases d <;> first | (cases h; done) | trivial
theorem dsB_ok {P : Program} {ds : Ds} {d : TypeDesc} (h : dsB P ds d = true) : ds.ok P d := by
  unfold dsB at h
  split at h
  · simp only [beq_iff_eq] at h; subst h; rfl
  · simp only [Bool.and_eq_true, decide_eq_true_eq] at h; exact ⟨_, rfl, h.1, h.2⟩
  · simp only [decide_eq_true_eq] at h; subst h; rfl
  · rfl
  · rfl
  · simp only [beq_iff_eq] at h; subst h; rfl
  · simp only [Bool.and_eq_true, decide_eq_true_eq, beq_iff_eq] at h; obtain ⟨rfl, rfl⟩ := h; rfl
  · simp only [Bool.and_eq_true, decide_eq_true_eq, beq_iff_eq] at h; obtain ⟨rfl, rfl⟩ := h; rfl
  · exact otherB_ok h
  · cases h
def zeroB (agg : Bool) (z : Value) (zs : List Value) : Bool := match agg, z with
  | true, .agg cs => vseq cs.toList zs
  | false, .agg _ => false
  | true, _ => false
  | false, z => vseq [z] zs && z.oneCell'
def eqB (P : Program) (t : Nat) : Bool := !P.stoodInHeld t && !P.eqGuardType P.depth t && match P.underlying t with
  | some (.struct fs) => fs.toList.all fun f => f.name != "_"
  | _ => false
theorem eqB_ok {P : Program} {t : Nat} (h : eqB P t = true) : EqOk P t := by
  unfold eqB at h
  simp only [Bool.and_eq_true, Bool.not_eq_true'] at h
  obtain ⟨⟨h1, h2⟩, h3⟩ := h
  split at h3
  · rename_i fs hu
    exact ⟨h1, h2, fs, hu, fun f hf => by simpa using List.all_eq_true.1 h3 f hf⟩
  · cases h3
def tyB (P : Program) (t : Nat) (ti : TI) : Bool := match P.info? t, P.underlying t with
  | some i, some d => dsB P ti.ds d && i.size == ti.size && i.bytes == ti.bytes && ti.zero.length == ti.size && ti.zero.all Value.oneCell' && (match i.zero with | some z => zeroB ti.ds.agg z ti.zero | none => false) && (!ti.eq || eqB P t)
  | _, _ => false
theorem tyB_ok {P : Program} {t : Nat} {ti : TI} (h : tyB P t ti = true) : TyOk1 P t ti := by
  unfold tyB at h
  split at h
  · rename_i i d hi hd
    simp only [Bool.and_eq_true, beq_iff_eq] at h
    obtain ⟨⟨⟨⟨⟨⟨h1, h2⟩, h3⟩, h4⟩, h5⟩, h6⟩, h7⟩ := h
    split at h6
    · rename_i z hz
      refine ⟨⟨i, z, d, hi, hd, dsB_ok h1, h2, h3, hz, ?_, h4, ?_, fun u hu => List.all_eq_true.1 h5 u hu⟩, fun he => eqB_ok (by rw [he] at h7; simpa using h7)⟩
      · cases ha : ti.ds.agg <;> rw [ha] at h6 <;> cases z <;> simp only [zeroB, Bool.and_eq_true, Bool.false_eq_true] at h6
        all_goals first | exact vseq_eq h6 | exact vseq_eq h6.1
      · cases ha : ti.ds.agg <;> rw [ha] at h6 <;> cases z <;> simp only [zeroB, Bool.and_eq_true, Bool.false_eq_true] at h6
        all_goals first | rfl | exact ⟨_, rfl, (vseq_eq h6.1).symm, h6.2⟩
    · cases h6
  · cases h
def lookT : List (Nat × TI) → Tab
  | [], _ => none
  | (k, v) :: l, t => if t = k then some v else lookT l t
theorem lookT_ok {P : Program} : ∀ {l : List (Nat × TI)}, l.all (fun p => tyB P p.1 p.2) = true → TyOk P (lookT l)
  | [], _ => fun t ti h => by cases h
  | (k, v) :: l, h => fun t ti ht => by
    simp only [List.all_cons, Bool.and_eq_true] at h
    simp only [lookT] at ht
    split at ht
    · rename_i e; subst e; cases ht; exact tyB_ok h.1
    · exact lookT_ok h.2 t ti ht
end Go.Pw

namespace Go.Pw
open Go Go.Proofs
def ti1 : TI := { ds := Ds.other, size := 1, bytes := 8, zero := [Value.nilFunc], eq := false }
def ti2 : TI := { ds := Ds.int IntKind.i64, size := 1, bytes := 8, zero := [Value.int IntKind.i64 0], eq := false }
def ti3 : TI := { ds := Ds.int IntKind.i64, size := 1, bytes := 8, zero := [Value.int IntKind.i64 0], eq := false }
def ti4 : TI := { ds := Ds.bool, size := 1, bytes := 1, zero := [Value.bool false], eq := false }
def ti5 : TI := { ds := Ds.int IntKind.u8, size := 1, bytes := 1, zero := [Value.int IntKind.u8 0], eq := false }
def ti6 : TI := { ds := Ds.int IntKind.u8, size := 1, bytes := 1, zero := [Value.int IntKind.u8 0], eq := false }
def ti7 : TI := { ds := Ds.st [(0, 2, 1), (1, 3, 1), (2, 4, 1), (3, 6, 1)], size := 4, bytes := 24, zero := [Value.int IntKind.i64 0, Value.int IntKind.i64 0, Value.bool false, Value.int IntKind.u8 0], eq := true }
def ti8 : TI := { ds := Ds.st [(0, 2, 1), (1, 3, 1), (2, 4, 1), (3, 6, 1)], size := 4, bytes := 24, zero := [Value.int IntKind.i64 0, Value.int IntKind.i64 0, Value.bool false, Value.int IntKind.u8 0], eq := true }
def ti9 : TI := { ds := Ds.str, size := 1, bytes := 16, zero := [Value.string ByteArray.empty], eq := false }
def ti10 : TI := { ds := Ds.str, size := 1, bytes := 16, zero := [Value.string ByteArray.empty], eq := false }
def ti11 : TI := { ds := Ds.str, size := 1, bytes := 16, zero := [Value.string ByteArray.empty], eq := false }
def ti12 : TI := { ds := Ds.int IntKind.u64, size := 1, bytes := 8, zero := [Value.int IntKind.u64 0], eq := false }
def ti13 : TI := { ds := Ds.st [(0, 9, 1), (1, 12, 1)], size := 2, bytes := 24, zero := [Value.string ByteArray.empty, Value.int IntKind.u64 0], eq := false }
def ti14 : TI := { ds := Ds.st [(0, 9, 1), (1, 12, 1)], size := 2, bytes := 24, zero := [Value.string ByteArray.empty, Value.int IntKind.u64 0], eq := false }
def ti15 : TI := { ds := Ds.ptr 127, size := 1, bytes := 8, zero := [Value.pointer none], eq := false }
def ti16 : TI := { ds := Ds.ptr 130, size := 1, bytes := 8, zero := [Value.pointer none], eq := false }
def ti17 : TI := { ds := Ds.ptr 140, size := 1, bytes := 8, zero := [Value.pointer none], eq := false }
def ti18 : TI := { ds := Ds.st [(0, 17, 1)], size := 1, bytes := 8, zero := [Value.pointer none], eq := false }
def ti19 : TI := { ds := Ds.st [(0, 17, 1)], size := 1, bytes := 8, zero := [Value.pointer none], eq := false }
def ti20 : TI := { ds := Ds.other, size := 1, bytes := 16, zero := [Value.nilIface], eq := false }
def ti21 : TI := { ds := Ds.int IntKind.i32, size := 1, bytes := 4, zero := [Value.int IntKind.i32 0], eq := false }
def ti22 : TI := { ds := Ds.sl 9, size := 1, bytes := 24, zero := [Value.slice none 0 0], eq := false }
def ti23 : TI := { ds := Ds.sl 3, size := 1, bytes := 24, zero := [Value.slice none 0 0], eq := false }
def ti24 : TI := { ds := Ds.sl 40, size := 1, bytes := 24, zero := [Value.slice none 0 0], eq := false }
def ti25 : TI := { ds := Ds.sl 75, size := 1, bytes := 24, zero := [Value.slice none 0 0], eq := false }
def ti26 : TI := { ds := Ds.sl 67, size := 1, bytes := 24, zero := [Value.slice none 0 0], eq := false }
def ti27 : TI := { ds := Ds.sl 77, size := 1, bytes := 24, zero := [Value.slice none 0 0], eq := false }
def ti28 : TI := { ds := Ds.sl 61, size := 1, bytes := 24, zero := [Value.slice none 0 0], eq := false }
def ti29 : TI := { ds := Ds.st [(0, 22, 1), (1, 23, 1), (2, 24, 1), (3, 25, 1), (4, 26, 1), (5, 27, 1), (6, 28, 1)], size := 7, bytes := 168, zero := [Value.slice none 0 0, Value.slice none 0 0, Value.slice none 0 0, Value.slice none 0 0, Value.slice none 0 0, Value.slice none 0 0, Value.slice none 0 0], eq := false }
def ti30 : TI := { ds := Ds.st [(0, 22, 1), (1, 23, 1), (2, 24, 1), (3, 25, 1), (4, 26, 1), (5, 27, 1), (6, 28, 1)], size := 7, bytes := 168, zero := [Value.slice none 0 0, Value.slice none 0 0, Value.slice none 0 0, Value.slice none 0 0, Value.slice none 0 0, Value.slice none 0 0, Value.slice none 0 0], eq := false }
def ti31 : TI := { ds := Ds.sl 90, size := 1, bytes := 24, zero := [Value.slice none 0 0], eq := false }
def ti32 : TI := { ds := Ds.other, size := 1, bytes := 8, zero := [Value.nilFunc], eq := false }
def ti33 : TI := { ds := Ds.other, size := 1, bytes := 8, zero := [Value.nilFunc], eq := false }
def ti34 : TI := { ds := Ds.other, size := 1, bytes := 8, zero := [Value.nilFunc], eq := false }
def ti35 : TI := { ds := Ds.other, size := 1, bytes := 8, zero := [Value.nilFunc], eq := false }
def ti36 : TI := { ds := Ds.int IntKind.i64, size := 1, bytes := 8, zero := [Value.int IntKind.i64 0], eq := false }
def ti37 : TI := { ds := Ds.other, size := 1, bytes := 8, zero := [Value.nilFunc], eq := false }
def ti38 : TI := { ds := Ds.sl 60, size := 1, bytes := 24, zero := [Value.slice none 0 0], eq := false }
def ti39 : TI := { ds := Ds.st [(0, 9, 1), (1, 3, 1), (2, 3, 1), (3, 3, 1), (4, 38, 1)], size := 5, bytes := 64, zero := [Value.string ByteArray.empty, Value.int IntKind.i64 0, Value.int IntKind.i64 0, Value.int IntKind.i64 0, Value.slice none 0 0], eq := false }
def ti40 : TI := { ds := Ds.st [(0, 9, 1), (1, 3, 1), (2, 3, 1), (3, 3, 1), (4, 38, 1)], size := 5, bytes := 64, zero := [Value.string ByteArray.empty, Value.int IntKind.i64 0, Value.int IntKind.i64 0, Value.int IntKind.i64 0, Value.slice none 0 0], eq := false }
def ti42 : TI := { ds := Ds.other, size := 1, bytes := 8, zero := [Value.nilFunc], eq := false }
def ti44 : TI := { ds := Ds.other, size := 1, bytes := 8, zero := [Value.nilFunc], eq := false }
def ti45 : TI := { ds := Ds.other, size := 1, bytes := 8, zero := [Value.nilFunc], eq := false }
def ti46 : TI := { ds := Ds.sl 48, size := 1, bytes := 24, zero := [Value.slice none 0 0], eq := false }
def ti47 : TI := { ds := Ds.st [(0, 3, 1), (1, 3, 1), (2, 9, 1)], size := 3, bytes := 32, zero := [Value.int IntKind.i64 0, Value.int IntKind.i64 0, Value.string ByteArray.empty], eq := true }
def ti48 : TI := { ds := Ds.st [(0, 3, 1), (1, 3, 1), (2, 9, 1)], size := 3, bytes := 32, zero := [Value.int IntKind.i64 0, Value.int IntKind.i64 0, Value.string ByteArray.empty], eq := true }
def ti49 : TI := { ds := Ds.other, size := 1, bytes := 8, zero := [Value.nilFunc], eq := false }
def ti50 : TI := { ds := Ds.other, size := 1, bytes := 8, zero := [Value.nilFunc], eq := false }
def ti51 : TI := { ds := Ds.sl 88, size := 1, bytes := 24, zero := [Value.slice none 0 0], eq := false }
def ti52 : TI := { ds := Ds.other, size := 1, bytes := 8, zero := [Value.nilFunc], eq := false }
def ti53 : TI := { ds := Ds.other, size := 1, bytes := 8, zero := [Value.nilFunc], eq := false }
def ti54 : TI := { ds := Ds.other, size := 1, bytes := 8, zero := [Value.nilFunc], eq := false }
def ti55 : TI := { ds := Ds.other, size := 1, bytes := 8, zero := [Value.nilFunc], eq := false }
def ti56 : TI := { ds := Ds.other, size := 1, bytes := 8, zero := [Value.nilFunc], eq := false }
def ti57 : TI := { ds := Ds.other, size := 1, bytes := 8, zero := [Value.nilFunc], eq := false }
def ti58 : TI := { ds := Ds.other, size := 1, bytes := 8, zero := [Value.nilFunc], eq := false }
def ti59 : TI := { ds := Ds.st [(0, 3, 1), (1, 3, 1), (2, 3, 1), (3, 3, 1), (4, 23, 1)], size := 5, bytes := 56, zero := [Value.int IntKind.i64 0, Value.int IntKind.i64 0, Value.int IntKind.i64 0, Value.int IntKind.i64 0, Value.slice none 0 0], eq := false }
def ti60 : TI := { ds := Ds.st [(0, 3, 1), (1, 3, 1), (2, 3, 1), (3, 3, 1), (4, 23, 1)], size := 5, bytes := 56, zero := [Value.int IntKind.i64 0, Value.int IntKind.i64 0, Value.int IntKind.i64 0, Value.int IntKind.i64 0, Value.slice none 0 0], eq := false }
def ti61 : TI := { ds := Ds.sl 63, size := 1, bytes := 24, zero := [Value.slice none 0 0], eq := false }
def ti62 : TI := { ds := Ds.st [(0, 3, 1), (1, 3, 1), (2, 9, 1), (3, 61, 1)], size := 4, bytes := 56, zero := [Value.int IntKind.i64 0, Value.int IntKind.i64 0, Value.string ByteArray.empty, Value.slice none 0 0], eq := false }
def ti63 : TI := { ds := Ds.st [(0, 3, 1), (1, 3, 1), (2, 9, 1), (3, 61, 1)], size := 4, bytes := 56, zero := [Value.int IntKind.i64 0, Value.int IntKind.i64 0, Value.string ByteArray.empty, Value.slice none 0 0], eq := false }
def ti64 : TI := { ds := Ds.other, size := 1, bytes := 8, zero := [Value.nilFunc], eq := false }
def ti65 : TI := { ds := Ds.other, size := 1, bytes := 8, zero := [Value.nilFunc], eq := false }
def ti66 : TI := { ds := Ds.st [(0, 9, 1), (1, 9, 1), (2, 3, 1)], size := 3, bytes := 40, zero := [Value.string ByteArray.empty, Value.string ByteArray.empty, Value.int IntKind.i64 0], eq := true }
def ti67 : TI := { ds := Ds.st [(0, 9, 1), (1, 9, 1), (2, 3, 1)], size := 3, bytes := 40, zero := [Value.string ByteArray.empty, Value.string ByteArray.empty, Value.int IntKind.i64 0], eq := true }
def ti68 : TI := { ds := Ds.other, size := 1, bytes := 8, zero := [Value.nilFunc], eq := false }
def ti69 : TI := { ds := Ds.mp 9 4, size := 1, bytes := 8, zero := [Value.map none], eq := false }
def ti70 : TI := { ds := Ds.other, size := 1, bytes := 8, zero := [Value.nilFunc], eq := false }
def ti71 : TI := { ds := Ds.other, size := 1, bytes := 8, zero := [Value.nilFunc], eq := false }
def ti72 : TI := { ds := Ds.other, size := 1, bytes := 8, zero := [Value.nilFunc], eq := false }
def ti73 : TI := { ds := Ds.other, size := 1, bytes := 8, zero := [Value.nilFunc], eq := false }
def ti74 : TI := { ds := Ds.st [(0, 9, 1), (1, 3, 1), (2, 3, 1), (3, 4, 1)], size := 4, bytes := 40, zero := [Value.string ByteArray.empty, Value.int IntKind.i64 0, Value.int IntKind.i64 0, Value.bool false], eq := true }
def ti75 : TI := { ds := Ds.st [(0, 9, 1), (1, 3, 1), (2, 3, 1), (3, 4, 1)], size := 4, bytes := 40, zero := [Value.string ByteArray.empty, Value.int IntKind.i64 0, Value.int IntKind.i64 0, Value.bool false], eq := true }
def ti76 : TI := { ds := Ds.st [(0, 9, 1), (1, 9, 1), (2, 3, 1)], size := 3, bytes := 40, zero := [Value.string ByteArray.empty, Value.string ByteArray.empty, Value.int IntKind.i64 0], eq := true }
def ti77 : TI := { ds := Ds.st [(0, 9, 1), (1, 9, 1), (2, 3, 1)], size := 3, bytes := 40, zero := [Value.string ByteArray.empty, Value.string ByteArray.empty, Value.int IntKind.i64 0], eq := true }
def ti78 : TI := { ds := Ds.other, size := 1, bytes := 8, zero := [Value.nilFunc], eq := false }
def ti79 : TI := { ds := Ds.other, size := 1, bytes := 8, zero := [Value.nilFunc], eq := false }
def ti80 : TI := { ds := Ds.other, size := 1, bytes := 8, zero := [Value.nilFunc], eq := false }
def ti82 : TI := { ds := Ds.other, size := 1, bytes := 8, zero := [Value.nilFunc], eq := false }
def ti83 : TI := { ds := Ds.other, size := 1, bytes := 8, zero := [Value.nilFunc], eq := false }
def ti84 : TI := { ds := Ds.other, size := 1, bytes := 8, zero := [Value.nilFunc], eq := false }
def ti85 : TI := { ds := Ds.ptr 60, size := 1, bytes := 8, zero := [Value.pointer none], eq := false }
def ti86 : TI := { ds := Ds.other, size := 1, bytes := 8, zero := [Value.nilFunc], eq := false }
def ti87 : TI := { ds := Ds.other, size := 1, bytes := 8, zero := [Value.nilFunc], eq := false }
def ti88 : TI := { ds := Ds.st [(0, 3, 1), (1, 3, 1), (2, 9, 1)], size := 3, bytes := 32, zero := [Value.int IntKind.i64 0, Value.int IntKind.i64 0, Value.string ByteArray.empty], eq := true }
def ti89 : TI := { ds := Ds.other, size := 1, bytes := 8, zero := [Value.nilFunc], eq := false }
def ti90 : TI := { ds := Ds.arr 3 3, size := 3, bytes := 24, zero := [Value.int IntKind.i64 0, Value.int IntKind.i64 0, Value.int IntKind.i64 0], eq := false }
def ti91 : TI := { ds := Ds.int IntKind.u64, size := 1, bytes := 8, zero := [Value.int IntKind.u64 0], eq := false }
def ti93 : TI := { ds := Ds.other, size := 1, bytes := 8, zero := [Value.nilFunc], eq := false }
def ti94 : TI := { ds := Ds.other, size := 1, bytes := 8, zero := [Value.nilFunc], eq := false }
def ti95 : TI := { ds := Ds.sl 98, size := 1, bytes := 24, zero := [Value.slice none 0 0], eq := false }
def ti96 : TI := { ds := Ds.other, size := 1, bytes := 8, zero := [Value.nilFunc], eq := false }
def ti97 : TI := { ds := Ds.st [(0, 3, 1), (1, 23, 1)], size := 2, bytes := 32, zero := [Value.int IntKind.i64 0, Value.slice none 0 0], eq := false }
def ti98 : TI := { ds := Ds.st [(0, 3, 1), (1, 23, 1)], size := 2, bytes := 32, zero := [Value.int IntKind.i64 0, Value.slice none 0 0], eq := false }
def ti99 : TI := { ds := Ds.other, size := 1, bytes := 8, zero := [Value.nilFunc], eq := false }
def ti100 : TI := { ds := Ds.other, size := 1, bytes := 8, zero := [Value.nilFunc], eq := false }
def ti101 : TI := { ds := Ds.other, size := 1, bytes := 8, zero := [Value.nilFunc], eq := false }
def ti102 : TI := { ds := Ds.other, size := 1, bytes := 8, zero := [Value.nilFunc], eq := false }
def ti103 : TI := { ds := Ds.int IntKind.u64, size := 1, bytes := 8, zero := [Value.int IntKind.u64 0], eq := false }
def ti104 : TI := { ds := Ds.sl 5, size := 1, bytes := 24, zero := [Value.slice none 0 0], eq := false }
def ti105 : TI := { ds := Ds.other, size := 1, bytes := 8, zero := [Value.nilFunc], eq := false }
def ti106 : TI := { ds := Ds.other, size := 1, bytes := 8, zero := [Value.nilFunc], eq := false }
def ti107 : TI := { ds := Ds.st [(0, 9, 1), (1, 4, 1), (2, 4, 1)], size := 3, bytes := 24, zero := [Value.string ByteArray.empty, Value.bool false, Value.bool false], eq := true }
def ti108 : TI := { ds := Ds.st [(0, 9, 1), (1, 4, 1), (2, 4, 1)], size := 3, bytes := 24, zero := [Value.string ByteArray.empty, Value.bool false, Value.bool false], eq := true }
def ti109 : TI := { ds := Ds.other, size := 1, bytes := 8, zero := [Value.nilFunc], eq := false }
def ti111 : TI := { ds := Ds.other, size := 1, bytes := 8, zero := [Value.nilFunc], eq := false }
def ti112 : TI := { ds := Ds.other, size := 1, bytes := 8, zero := [Value.nilFunc], eq := false }
def ti113 : TI := { ds := Ds.other, size := 1, bytes := 8, zero := [Value.nilFunc], eq := false }
def ti114 : TI := { ds := Ds.other, size := 1, bytes := 8, zero := [Value.nilFunc], eq := false }
def ti115 : TI := { ds := Ds.other, size := 1, bytes := 8, zero := [Value.nilFunc], eq := false }
def ti116 : TI := { ds := Ds.other, size := 1, bytes := 8, zero := [Value.nilFunc], eq := false }
def ti117 : TI := { ds := Ds.other, size := 1, bytes := 8, zero := [Value.nilFunc], eq := false }
def ti118 : TI := { ds := Ds.other, size := 1, bytes := 8, zero := [Value.nilFunc], eq := false }
def ti119 : TI := { ds := Ds.other, size := 1, bytes := 8, zero := [Value.nilFunc], eq := false }
def ti120 : TI := { ds := Ds.other, size := 1, bytes := 8, zero := [Value.nilFunc], eq := false }
def ti122 : TI := { ds := Ds.other, size := 1, bytes := 8, zero := [Value.nilFunc], eq := false }
def ti123 : TI := { ds := Ds.other, size := 1, bytes := 8, zero := [Value.nilFunc], eq := false }
def ti124 : TI := { ds := Ds.other, size := 1, bytes := 8, zero := [Value.nilFunc], eq := false }
def ti125 : TI := { ds := Ds.other, size := 1, bytes := 8, zero := [Value.nilFunc], eq := false }
def ti126 : TI := { ds := Ds.st [(0, 17, 1), (1, 17, 1), (2, 17, 1), (3, 9, 1)], size := 4, bytes := 40, zero := [Value.pointer none, Value.pointer none, Value.pointer none, Value.string ByteArray.empty], eq := false }
def ti127 : TI := { ds := Ds.st [(0, 17, 1), (1, 17, 1), (2, 17, 1), (3, 9, 1)], size := 4, bytes := 40, zero := [Value.pointer none, Value.pointer none, Value.pointer none, Value.string ByteArray.empty], eq := false }
def ti128 : TI := { ds := Ds.arr 0 16, size := 0, bytes := 0, zero := [], eq := false }
def ti129 : TI := { ds := Ds.st [(0, 128, 0)], size := 0, bytes := 0, zero := [], eq := false }
def ti130 : TI := { ds := Ds.st [(0, 128, 0)], size := 0, bytes := 0, zero := [], eq := false }
def ti131 : TI := { ds := Ds.other, size := 1, bytes := 8, zero := [Value.nilFunc], eq := false }
def ti132 : TI := { ds := Ds.int IntKind.u32, size := 1, bytes := 4, zero := [Value.int IntKind.u32 0], eq := false }
def ti133 : TI := { ds := Ds.int IntKind.u8, size := 1, bytes := 1, zero := [Value.int IntKind.u8 0], eq := false }
def ti134 : TI := { ds := Ds.int IntKind.u8, size := 1, bytes := 1, zero := [Value.int IntKind.u8 0], eq := false }
def ti135 : TI := { ds := Ds.other, size := 1, bytes := 8, zero := [Value.nilFunc], eq := false }
def ti136 : TI := { ds := Ds.ptr 5, size := 1, bytes := 8, zero := [Value.pointer none], eq := false }
def ti137 : TI := { ds := Ds.int IntKind.i32, size := 1, bytes := 4, zero := [Value.int IntKind.i32 0], eq := false }
def ti138 : TI := { ds := Ds.int IntKind.i32, size := 1, bytes := 4, zero := [Value.int IntKind.i32 0], eq := false }
def ti139 : TI := { ds := Ds.st [(0, 12, 1), (1, 12, 1), (2, 132, 1), (3, 133, 1), (4, 5, 1), (5, 5, 1), (6, 134, 1), (7, 135, 1), (8, 136, 1), (9, 137, 1), (10, 138, 1)], size := 11, bytes := 48, zero := [Value.int IntKind.u64 0, Value.int IntKind.u64 0, Value.int IntKind.u32 0, Value.int IntKind.u8 0, Value.int IntKind.u8 0, Value.int IntKind.u8 0, Value.int IntKind.u8 0, Value.nilFunc, Value.pointer none, Value.int IntKind.i32 0, Value.int IntKind.i32 0], eq := false }
def ti140 : TI := { ds := Ds.st [(0, 12, 1), (1, 12, 1), (2, 132, 1), (3, 133, 1), (4, 5, 1), (5, 5, 1), (6, 134, 1), (7, 135, 1), (8, 136, 1), (9, 137, 1), (10, 138, 1)], size := 11, bytes := 48, zero := [Value.int IntKind.u64 0, Value.int IntKind.u64 0, Value.int IntKind.u32 0, Value.int IntKind.u8 0, Value.int IntKind.u8 0, Value.int IntKind.u8 0, Value.int IntKind.u8 0, Value.nilFunc, Value.pointer none, Value.int IntKind.i32 0, Value.int IntKind.i32 0], eq := false }
def ti141 : TI := { ds := Ds.other, size := 1, bytes := 8, zero := [Value.pointer none], eq := false }
def tys : List (Nat × TI) := [(1, ti1), (2, ti2), (3, ti3), (4, ti4), (5, ti5), (6, ti6), (7, ti7), (8, ti8), (9, ti9), (10, ti10), (11, ti11), (12, ti12), (13, ti13), (14, ti14), (15, ti15), (16, ti16), (17, ti17), (18, ti18), (19, ti19), (20, ti20), (21, ti21), (22, ti22), (23, ti23), (24, ti24), (25, ti25), (26, ti26), (27, ti27), (28, ti28), (29, ti29), (30, ti30), (31, ti31), (32, ti32), (33, ti33), (34, ti34), (35, ti35), (36, ti36), (37, ti37), (38, ti38), (39, ti39), (40, ti40), (42, ti42), (44, ti44), (45, ti45), (46, ti46), (47, ti47), (48, ti48), (49, ti49), (50, ti50), (51, ti51), (52, ti52), (53, ti53), (54, ti54), (55, ti55), (56, ti56), (57, ti57), (58, ti58), (59, ti59), (60, ti60), (61, ti61), (62, ti62), (63, ti63), (64, ti64), (65, ti65), (66, ti66), (67, ti67), (68, ti68), (69, ti69), (70, ti70), (71, ti71), (72, ti72), (73, ti73), (74, ti74), (75, ti75), (76, ti76), (77, ti77), (78, ti78), (79, ti79), (80, ti80), (82, ti82), (83, ti83), (84, ti84), (85, ti85), (86, ti86), (87, ti87), (88, ti88), (89, ti89), (90, ti90), (91, ti91), (93, ti93), (94, ti94), (95, ti95), (96, ti96), (97, ti97), (98, ti98), (99, ti99), (100, ti100), (101, ti101), (102, ti102), (103, ti103), (104, ti104), (105, ti105), (106, ti106), (107, ti107), (108, ti108), (109, ti109), (111, ti111), (112, ti112), (113, ti113), (114, ti114), (115, ti115), (116, ti116), (117, ti117), (118, ti118), (119, ti119), (120, ti120), (122, ti122), (123, ti123), (124, ti124), (125, ti125), (126, ti126), (127, ti127), (128, ti128), (129, ti129), (130, ti130), (131, ti131), (132, ti132), (133, ti133), (134, ti134), (135, ti135), (136, ti136), (137, ti137), (138, ti138), (139, ti139), (140, ti140), (141, ti141)]
def T : Tab := lookT tys
theorem T_ok : TyOk Try.prog T := lookT_ok (by kernel_rfl)
theorem T1 : T 1 = some ⟨Ds.other, 1, 8, [Value.nilFunc], false⟩ := by kernel_rfl
theorem T2 : T 2 = some ⟨Ds.int IntKind.i64, 1, 8, [Value.int IntKind.i64 0], false⟩ := by kernel_rfl
theorem T3 : T 3 = some ⟨Ds.int IntKind.i64, 1, 8, [Value.int IntKind.i64 0], false⟩ := by kernel_rfl
theorem T4 : T 4 = some ⟨Ds.bool, 1, 1, [Value.bool false], false⟩ := by kernel_rfl
theorem T5 : T 5 = some ⟨Ds.int IntKind.u8, 1, 1, [Value.int IntKind.u8 0], false⟩ := by kernel_rfl
theorem T6 : T 6 = some ⟨Ds.int IntKind.u8, 1, 1, [Value.int IntKind.u8 0], false⟩ := by kernel_rfl
theorem T7 : T 7 = some ⟨Ds.st [(0, 2, 1), (1, 3, 1), (2, 4, 1), (3, 6, 1)], 4, 24, [Value.int IntKind.i64 0, Value.int IntKind.i64 0, Value.bool false, Value.int IntKind.u8 0], true⟩ := by kernel_rfl
theorem T8 : T 8 = some ⟨Ds.st [(0, 2, 1), (1, 3, 1), (2, 4, 1), (3, 6, 1)], 4, 24, [Value.int IntKind.i64 0, Value.int IntKind.i64 0, Value.bool false, Value.int IntKind.u8 0], true⟩ := by kernel_rfl
theorem T9 : T 9 = some ⟨Ds.str, 1, 16, [Value.string ByteArray.empty], false⟩ := by kernel_rfl
theorem T10 : T 10 = some ⟨Ds.str, 1, 16, [Value.string ByteArray.empty], false⟩ := by kernel_rfl
theorem T11 : T 11 = some ⟨Ds.str, 1, 16, [Value.string ByteArray.empty], false⟩ := by kernel_rfl
theorem T12 : T 12 = some ⟨Ds.int IntKind.u64, 1, 8, [Value.int IntKind.u64 0], false⟩ := by kernel_rfl
theorem T13 : T 13 = some ⟨Ds.st [(0, 9, 1), (1, 12, 1)], 2, 24, [Value.string ByteArray.empty, Value.int IntKind.u64 0], false⟩ := by kernel_rfl
theorem T14 : T 14 = some ⟨Ds.st [(0, 9, 1), (1, 12, 1)], 2, 24, [Value.string ByteArray.empty, Value.int IntKind.u64 0], false⟩ := by kernel_rfl
theorem T15 : T 15 = some ⟨Ds.ptr 127, 1, 8, [Value.pointer none], false⟩ := by kernel_rfl
theorem T16 : T 16 = some ⟨Ds.ptr 130, 1, 8, [Value.pointer none], false⟩ := by kernel_rfl
theorem T17 : T 17 = some ⟨Ds.ptr 140, 1, 8, [Value.pointer none], false⟩ := by kernel_rfl
theorem T18 : T 18 = some ⟨Ds.st [(0, 17, 1)], 1, 8, [Value.pointer none], false⟩ := by kernel_rfl
theorem T19 : T 19 = some ⟨Ds.st [(0, 17, 1)], 1, 8, [Value.pointer none], false⟩ := by kernel_rfl
theorem T20 : T 20 = some ⟨Ds.other, 1, 16, [Value.nilIface], false⟩ := by kernel_rfl
theorem T21 : T 21 = some ⟨Ds.int IntKind.i32, 1, 4, [Value.int IntKind.i32 0], false⟩ := by kernel_rfl
theorem T22 : T 22 = some ⟨Ds.sl 9, 1, 24, [Value.slice none 0 0], false⟩ := by kernel_rfl
theorem T23 : T 23 = some ⟨Ds.sl 3, 1, 24, [Value.slice none 0 0], false⟩ := by kernel_rfl
theorem T24 : T 24 = some ⟨Ds.sl 40, 1, 24, [Value.slice none 0 0], false⟩ := by kernel_rfl
theorem T25 : T 25 = some ⟨Ds.sl 75, 1, 24, [Value.slice none 0 0], false⟩ := by kernel_rfl
theorem T26 : T 26 = some ⟨Ds.sl 67, 1, 24, [Value.slice none 0 0], false⟩ := by kernel_rfl
theorem T27 : T 27 = some ⟨Ds.sl 77, 1, 24, [Value.slice none 0 0], false⟩ := by kernel_rfl
theorem T28 : T 28 = some ⟨Ds.sl 61, 1, 24, [Value.slice none 0 0], false⟩ := by kernel_rfl
theorem T29 : T 29 = some ⟨Ds.st [(0, 22, 1), (1, 23, 1), (2, 24, 1), (3, 25, 1), (4, 26, 1), (5, 27, 1), (6, 28, 1)], 7, 168, [Value.slice none 0 0, Value.slice none 0 0, Value.slice none 0 0, Value.slice none 0 0, Value.slice none 0 0, Value.slice none 0 0, Value.slice none 0 0], false⟩ := by kernel_rfl
theorem T30 : T 30 = some ⟨Ds.st [(0, 22, 1), (1, 23, 1), (2, 24, 1), (3, 25, 1), (4, 26, 1), (5, 27, 1), (6, 28, 1)], 7, 168, [Value.slice none 0 0, Value.slice none 0 0, Value.slice none 0 0, Value.slice none 0 0, Value.slice none 0 0, Value.slice none 0 0, Value.slice none 0 0], false⟩ := by kernel_rfl
theorem T31 : T 31 = some ⟨Ds.sl 90, 1, 24, [Value.slice none 0 0], false⟩ := by kernel_rfl
theorem T32 : T 32 = some ⟨Ds.other, 1, 8, [Value.nilFunc], false⟩ := by kernel_rfl
theorem T33 : T 33 = some ⟨Ds.other, 1, 8, [Value.nilFunc], false⟩ := by kernel_rfl
theorem T34 : T 34 = some ⟨Ds.other, 1, 8, [Value.nilFunc], false⟩ := by kernel_rfl
theorem T35 : T 35 = some ⟨Ds.other, 1, 8, [Value.nilFunc], false⟩ := by kernel_rfl
theorem T36 : T 36 = some ⟨Ds.int IntKind.i64, 1, 8, [Value.int IntKind.i64 0], false⟩ := by kernel_rfl
theorem T37 : T 37 = some ⟨Ds.other, 1, 8, [Value.nilFunc], false⟩ := by kernel_rfl
theorem T38 : T 38 = some ⟨Ds.sl 60, 1, 24, [Value.slice none 0 0], false⟩ := by kernel_rfl
theorem T39 : T 39 = some ⟨Ds.st [(0, 9, 1), (1, 3, 1), (2, 3, 1), (3, 3, 1), (4, 38, 1)], 5, 64, [Value.string ByteArray.empty, Value.int IntKind.i64 0, Value.int IntKind.i64 0, Value.int IntKind.i64 0, Value.slice none 0 0], false⟩ := by kernel_rfl
theorem T40 : T 40 = some ⟨Ds.st [(0, 9, 1), (1, 3, 1), (2, 3, 1), (3, 3, 1), (4, 38, 1)], 5, 64, [Value.string ByteArray.empty, Value.int IntKind.i64 0, Value.int IntKind.i64 0, Value.int IntKind.i64 0, Value.slice none 0 0], false⟩ := by kernel_rfl
theorem T42 : T 42 = some ⟨Ds.other, 1, 8, [Value.nilFunc], false⟩ := by kernel_rfl
theorem T44 : T 44 = some ⟨Ds.other, 1, 8, [Value.nilFunc], false⟩ := by kernel_rfl
theorem T45 : T 45 = some ⟨Ds.other, 1, 8, [Value.nilFunc], false⟩ := by kernel_rfl
theorem T46 : T 46 = some ⟨Ds.sl 48, 1, 24, [Value.slice none 0 0], false⟩ := by kernel_rfl
theorem T47 : T 47 = some ⟨Ds.st [(0, 3, 1), (1, 3, 1), (2, 9, 1)], 3, 32, [Value.int IntKind.i64 0, Value.int IntKind.i64 0, Value.string ByteArray.empty], true⟩ := by kernel_rfl
theorem T48 : T 48 = some ⟨Ds.st [(0, 3, 1), (1, 3, 1), (2, 9, 1)], 3, 32, [Value.int IntKind.i64 0, Value.int IntKind.i64 0, Value.string ByteArray.empty], true⟩ := by kernel_rfl
theorem T49 : T 49 = some ⟨Ds.other, 1, 8, [Value.nilFunc], false⟩ := by kernel_rfl
theorem T50 : T 50 = some ⟨Ds.other, 1, 8, [Value.nilFunc], false⟩ := by kernel_rfl
theorem T51 : T 51 = some ⟨Ds.sl 88, 1, 24, [Value.slice none 0 0], false⟩ := by kernel_rfl
theorem T52 : T 52 = some ⟨Ds.other, 1, 8, [Value.nilFunc], false⟩ := by kernel_rfl
theorem T53 : T 53 = some ⟨Ds.other, 1, 8, [Value.nilFunc], false⟩ := by kernel_rfl
theorem T54 : T 54 = some ⟨Ds.other, 1, 8, [Value.nilFunc], false⟩ := by kernel_rfl
theorem T55 : T 55 = some ⟨Ds.other, 1, 8, [Value.nilFunc], false⟩ := by kernel_rfl
theorem T56 : T 56 = some ⟨Ds.other, 1, 8, [Value.nilFunc], false⟩ := by kernel_rfl
theorem T57 : T 57 = some ⟨Ds.other, 1, 8, [Value.nilFunc], false⟩ := by kernel_rfl
theorem T58 : T 58 = some ⟨Ds.other, 1, 8, [Value.nilFunc], false⟩ := by kernel_rfl
theorem T59 : T 59 = some ⟨Ds.st [(0, 3, 1), (1, 3, 1), (2, 3, 1), (3, 3, 1), (4, 23, 1)], 5, 56, [Value.int IntKind.i64 0, Value.int IntKind.i64 0, Value.int IntKind.i64 0, Value.int IntKind.i64 0, Value.slice none 0 0], false⟩ := by kernel_rfl
theorem T60 : T 60 = some ⟨Ds.st [(0, 3, 1), (1, 3, 1), (2, 3, 1), (3, 3, 1), (4, 23, 1)], 5, 56, [Value.int IntKind.i64 0, Value.int IntKind.i64 0, Value.int IntKind.i64 0, Value.int IntKind.i64 0, Value.slice none 0 0], false⟩ := by kernel_rfl
theorem T61 : T 61 = some ⟨Ds.sl 63, 1, 24, [Value.slice none 0 0], false⟩ := by kernel_rfl
theorem T62 : T 62 = some ⟨Ds.st [(0, 3, 1), (1, 3, 1), (2, 9, 1), (3, 61, 1)], 4, 56, [Value.int IntKind.i64 0, Value.int IntKind.i64 0, Value.string ByteArray.empty, Value.slice none 0 0], false⟩ := by kernel_rfl
theorem T63 : T 63 = some ⟨Ds.st [(0, 3, 1), (1, 3, 1), (2, 9, 1), (3, 61, 1)], 4, 56, [Value.int IntKind.i64 0, Value.int IntKind.i64 0, Value.string ByteArray.empty, Value.slice none 0 0], false⟩ := by kernel_rfl
theorem T64 : T 64 = some ⟨Ds.other, 1, 8, [Value.nilFunc], false⟩ := by kernel_rfl
theorem T65 : T 65 = some ⟨Ds.other, 1, 8, [Value.nilFunc], false⟩ := by kernel_rfl
theorem T66 : T 66 = some ⟨Ds.st [(0, 9, 1), (1, 9, 1), (2, 3, 1)], 3, 40, [Value.string ByteArray.empty, Value.string ByteArray.empty, Value.int IntKind.i64 0], true⟩ := by kernel_rfl
theorem T67 : T 67 = some ⟨Ds.st [(0, 9, 1), (1, 9, 1), (2, 3, 1)], 3, 40, [Value.string ByteArray.empty, Value.string ByteArray.empty, Value.int IntKind.i64 0], true⟩ := by kernel_rfl
theorem T68 : T 68 = some ⟨Ds.other, 1, 8, [Value.nilFunc], false⟩ := by kernel_rfl
theorem T69 : T 69 = some ⟨Ds.mp 9 4, 1, 8, [Value.map none], false⟩ := by kernel_rfl
theorem T70 : T 70 = some ⟨Ds.other, 1, 8, [Value.nilFunc], false⟩ := by kernel_rfl
theorem T71 : T 71 = some ⟨Ds.other, 1, 8, [Value.nilFunc], false⟩ := by kernel_rfl
theorem T72 : T 72 = some ⟨Ds.other, 1, 8, [Value.nilFunc], false⟩ := by kernel_rfl
theorem T73 : T 73 = some ⟨Ds.other, 1, 8, [Value.nilFunc], false⟩ := by kernel_rfl
theorem T74 : T 74 = some ⟨Ds.st [(0, 9, 1), (1, 3, 1), (2, 3, 1), (3, 4, 1)], 4, 40, [Value.string ByteArray.empty, Value.int IntKind.i64 0, Value.int IntKind.i64 0, Value.bool false], true⟩ := by kernel_rfl
theorem T75 : T 75 = some ⟨Ds.st [(0, 9, 1), (1, 3, 1), (2, 3, 1), (3, 4, 1)], 4, 40, [Value.string ByteArray.empty, Value.int IntKind.i64 0, Value.int IntKind.i64 0, Value.bool false], true⟩ := by kernel_rfl
theorem T76 : T 76 = some ⟨Ds.st [(0, 9, 1), (1, 9, 1), (2, 3, 1)], 3, 40, [Value.string ByteArray.empty, Value.string ByteArray.empty, Value.int IntKind.i64 0], true⟩ := by kernel_rfl
theorem T77 : T 77 = some ⟨Ds.st [(0, 9, 1), (1, 9, 1), (2, 3, 1)], 3, 40, [Value.string ByteArray.empty, Value.string ByteArray.empty, Value.int IntKind.i64 0], true⟩ := by kernel_rfl
theorem T78 : T 78 = some ⟨Ds.other, 1, 8, [Value.nilFunc], false⟩ := by kernel_rfl
theorem T79 : T 79 = some ⟨Ds.other, 1, 8, [Value.nilFunc], false⟩ := by kernel_rfl
theorem T80 : T 80 = some ⟨Ds.other, 1, 8, [Value.nilFunc], false⟩ := by kernel_rfl
theorem T82 : T 82 = some ⟨Ds.other, 1, 8, [Value.nilFunc], false⟩ := by kernel_rfl
theorem T83 : T 83 = some ⟨Ds.other, 1, 8, [Value.nilFunc], false⟩ := by kernel_rfl
theorem T84 : T 84 = some ⟨Ds.other, 1, 8, [Value.nilFunc], false⟩ := by kernel_rfl
theorem T85 : T 85 = some ⟨Ds.ptr 60, 1, 8, [Value.pointer none], false⟩ := by kernel_rfl
theorem T86 : T 86 = some ⟨Ds.other, 1, 8, [Value.nilFunc], false⟩ := by kernel_rfl
theorem T87 : T 87 = some ⟨Ds.other, 1, 8, [Value.nilFunc], false⟩ := by kernel_rfl
theorem T88 : T 88 = some ⟨Ds.st [(0, 3, 1), (1, 3, 1), (2, 9, 1)], 3, 32, [Value.int IntKind.i64 0, Value.int IntKind.i64 0, Value.string ByteArray.empty], true⟩ := by kernel_rfl
theorem T89 : T 89 = some ⟨Ds.other, 1, 8, [Value.nilFunc], false⟩ := by kernel_rfl
theorem T90 : T 90 = some ⟨Ds.arr 3 3, 3, 24, [Value.int IntKind.i64 0, Value.int IntKind.i64 0, Value.int IntKind.i64 0], false⟩ := by kernel_rfl
theorem T91 : T 91 = some ⟨Ds.int IntKind.u64, 1, 8, [Value.int IntKind.u64 0], false⟩ := by kernel_rfl
theorem T93 : T 93 = some ⟨Ds.other, 1, 8, [Value.nilFunc], false⟩ := by kernel_rfl
theorem T94 : T 94 = some ⟨Ds.other, 1, 8, [Value.nilFunc], false⟩ := by kernel_rfl
theorem T95 : T 95 = some ⟨Ds.sl 98, 1, 24, [Value.slice none 0 0], false⟩ := by kernel_rfl
theorem T96 : T 96 = some ⟨Ds.other, 1, 8, [Value.nilFunc], false⟩ := by kernel_rfl
theorem T97 : T 97 = some ⟨Ds.st [(0, 3, 1), (1, 23, 1)], 2, 32, [Value.int IntKind.i64 0, Value.slice none 0 0], false⟩ := by kernel_rfl
theorem T98 : T 98 = some ⟨Ds.st [(0, 3, 1), (1, 23, 1)], 2, 32, [Value.int IntKind.i64 0, Value.slice none 0 0], false⟩ := by kernel_rfl
theorem T99 : T 99 = some ⟨Ds.other, 1, 8, [Value.nilFunc], false⟩ := by kernel_rfl
theorem T100 : T 100 = some ⟨Ds.other, 1, 8, [Value.nilFunc], false⟩ := by kernel_rfl
theorem T101 : T 101 = some ⟨Ds.other, 1, 8, [Value.nilFunc], false⟩ := by kernel_rfl
theorem T102 : T 102 = some ⟨Ds.other, 1, 8, [Value.nilFunc], false⟩ := by kernel_rfl
theorem T103 : T 103 = some ⟨Ds.int IntKind.u64, 1, 8, [Value.int IntKind.u64 0], false⟩ := by kernel_rfl
theorem T104 : T 104 = some ⟨Ds.sl 5, 1, 24, [Value.slice none 0 0], false⟩ := by kernel_rfl
theorem T105 : T 105 = some ⟨Ds.other, 1, 8, [Value.nilFunc], false⟩ := by kernel_rfl
theorem T106 : T 106 = some ⟨Ds.other, 1, 8, [Value.nilFunc], false⟩ := by kernel_rfl
theorem T107 : T 107 = some ⟨Ds.st [(0, 9, 1), (1, 4, 1), (2, 4, 1)], 3, 24, [Value.string ByteArray.empty, Value.bool false, Value.bool false], true⟩ := by kernel_rfl
theorem T108 : T 108 = some ⟨Ds.st [(0, 9, 1), (1, 4, 1), (2, 4, 1)], 3, 24, [Value.string ByteArray.empty, Value.bool false, Value.bool false], true⟩ := by kernel_rfl
theorem T109 : T 109 = some ⟨Ds.other, 1, 8, [Value.nilFunc], false⟩ := by kernel_rfl
theorem T111 : T 111 = some ⟨Ds.other, 1, 8, [Value.nilFunc], false⟩ := by kernel_rfl
theorem T112 : T 112 = some ⟨Ds.other, 1, 8, [Value.nilFunc], false⟩ := by kernel_rfl
theorem T113 : T 113 = some ⟨Ds.other, 1, 8, [Value.nilFunc], false⟩ := by kernel_rfl
theorem T114 : T 114 = some ⟨Ds.other, 1, 8, [Value.nilFunc], false⟩ := by kernel_rfl
theorem T115 : T 115 = some ⟨Ds.other, 1, 8, [Value.nilFunc], false⟩ := by kernel_rfl
theorem T116 : T 116 = some ⟨Ds.other, 1, 8, [Value.nilFunc], false⟩ := by kernel_rfl
theorem T117 : T 117 = some ⟨Ds.other, 1, 8, [Value.nilFunc], false⟩ := by kernel_rfl
theorem T118 : T 118 = some ⟨Ds.other, 1, 8, [Value.nilFunc], false⟩ := by kernel_rfl
theorem T119 : T 119 = some ⟨Ds.other, 1, 8, [Value.nilFunc], false⟩ := by kernel_rfl
theorem T120 : T 120 = some ⟨Ds.other, 1, 8, [Value.nilFunc], false⟩ := by kernel_rfl
theorem T122 : T 122 = some ⟨Ds.other, 1, 8, [Value.nilFunc], false⟩ := by kernel_rfl
theorem T123 : T 123 = some ⟨Ds.other, 1, 8, [Value.nilFunc], false⟩ := by kernel_rfl
theorem T124 : T 124 = some ⟨Ds.other, 1, 8, [Value.nilFunc], false⟩ := by kernel_rfl
theorem T125 : T 125 = some ⟨Ds.other, 1, 8, [Value.nilFunc], false⟩ := by kernel_rfl
theorem T126 : T 126 = some ⟨Ds.st [(0, 17, 1), (1, 17, 1), (2, 17, 1), (3, 9, 1)], 4, 40, [Value.pointer none, Value.pointer none, Value.pointer none, Value.string ByteArray.empty], false⟩ := by kernel_rfl
theorem T127 : T 127 = some ⟨Ds.st [(0, 17, 1), (1, 17, 1), (2, 17, 1), (3, 9, 1)], 4, 40, [Value.pointer none, Value.pointer none, Value.pointer none, Value.string ByteArray.empty], false⟩ := by kernel_rfl
theorem T128 : T 128 = some ⟨Ds.arr 0 16, 0, 0, [], false⟩ := by kernel_rfl
theorem T129 : T 129 = some ⟨Ds.st [(0, 128, 0)], 0, 0, [], false⟩ := by kernel_rfl
theorem T130 : T 130 = some ⟨Ds.st [(0, 128, 0)], 0, 0, [], false⟩ := by kernel_rfl
theorem T131 : T 131 = some ⟨Ds.other, 1, 8, [Value.nilFunc], false⟩ := by kernel_rfl
theorem T132 : T 132 = some ⟨Ds.int IntKind.u32, 1, 4, [Value.int IntKind.u32 0], false⟩ := by kernel_rfl
theorem T133 : T 133 = some ⟨Ds.int IntKind.u8, 1, 1, [Value.int IntKind.u8 0], false⟩ := by kernel_rfl
theorem T134 : T 134 = some ⟨Ds.int IntKind.u8, 1, 1, [Value.int IntKind.u8 0], false⟩ := by kernel_rfl
theorem T135 : T 135 = some ⟨Ds.other, 1, 8, [Value.nilFunc], false⟩ := by kernel_rfl
theorem T136 : T 136 = some ⟨Ds.ptr 5, 1, 8, [Value.pointer none], false⟩ := by kernel_rfl
theorem T137 : T 137 = some ⟨Ds.int IntKind.i32, 1, 4, [Value.int IntKind.i32 0], false⟩ := by kernel_rfl
theorem T138 : T 138 = some ⟨Ds.int IntKind.i32, 1, 4, [Value.int IntKind.i32 0], false⟩ := by kernel_rfl
theorem T139 : T 139 = some ⟨Ds.st [(0, 12, 1), (1, 12, 1), (2, 132, 1), (3, 133, 1), (4, 5, 1), (5, 5, 1), (6, 134, 1), (7, 135, 1), (8, 136, 1), (9, 137, 1), (10, 138, 1)], 11, 48, [Value.int IntKind.u64 0, Value.int IntKind.u64 0, Value.int IntKind.u32 0, Value.int IntKind.u8 0, Value.int IntKind.u8 0, Value.int IntKind.u8 0, Value.int IntKind.u8 0, Value.nilFunc, Value.pointer none, Value.int IntKind.i32 0, Value.int IntKind.i32 0], false⟩ := by kernel_rfl
theorem T140 : T 140 = some ⟨Ds.st [(0, 12, 1), (1, 12, 1), (2, 132, 1), (3, 133, 1), (4, 5, 1), (5, 5, 1), (6, 134, 1), (7, 135, 1), (8, 136, 1), (9, 137, 1), (10, 138, 1)], 11, 48, [Value.int IntKind.u64 0, Value.int IntKind.u64 0, Value.int IntKind.u32 0, Value.int IntKind.u8 0, Value.int IntKind.u8 0, Value.int IntKind.u8 0, Value.int IntKind.u8 0, Value.nilFunc, Value.pointer none, Value.int IntKind.i32 0, Value.int IntKind.i32 0], false⟩ := by kernel_rfl
theorem T141 : T 141 = some ⟨Ds.other, 1, 8, [Value.pointer none], false⟩ := by kernel_rfl
theorem mixed : Try.prog.follows .mixedOrders = true := by kernel_rfl
end Go.Pw

namespace Go.Pw
open Go
theorem stepOp_mono {P : Program} {T : Tab} {o : Oper} {s : S} {K K' : S → Tr → Prop} (h : stepOp P T o s K) (hk : ∀ s t, K s t → K' s t) : stepOp P T o s K' := by
  unfold stepOp at h ⊢
  split at h
  · split at h
    · split at h
      · obtain ⟨ks, kw, r, Ms', OW, g1, g2, h1, h2, h3⟩ := h
        exact ⟨ks, kw, r, Ms', OW, g1, g2, h1, h2, hk _ _ h3⟩
      · exact h.elim
    · split at h
      · exact ⟨h.1, hk _ _ h.2⟩
      · exact h.elim
  · split at h
    · exact ⟨h.1, hk _ _ h.2⟩
    · exact h.elim
theorem step_mono {P : Program} {T : Tab} {n : Nat} {ops : Array Oper} {o : Oper} {s : S} {K K' : S → Tr → Prop} (h : step P T n ops o s K) (hk : ∀ s t, K s t → K' s t) : step P T n ops o s K' := by
  unfold step at h ⊢
  obtain ⟨hd, h⟩ := h
  refine ⟨hd, ?_⟩
  split at h
  · exact stepOp_mono h hk
  · split at h
    · split at h
      · exact ⟨fun e => stepOp_mono (h.1 e) hk, fun e => hk _ _ (h.2 e)⟩
      · exact hk _ _ h
      · exact h.elim
    · exact h.elim
def endD (ops : Array Oper) (Q : Exit → S → Prop) (s : S) (trs : List (Nat × Tr)) : Prop := pairsOk ops trs = true ∧ Q .normal s
theorem endD_i {ops : Array Oper} {Q : Exit → S → Prop} {s : S} {trs : List (Nat × Tr)} (hpair : pairsOk ops trs = true) (h2 : Q .normal s) : endD ops Q s trs := ⟨hpair, h2⟩
section
variable {P : Program} {T : Tab} {n : Nat} {ops : Array Oper} {i : Nat} {os : List Oper} {trs : List (Nat × Tr)} {K : S → List (Nat × Tr) → Prop}
theorem R_nil {s : S} (h : K s trs) : runL P T n ops i [] s trs K := h
theorem R_step {o : Oper} {s s' : S} {tr : Tr} (h : Step P T n ops o s s' tr) (h2 : runL P T n ops (i + 1) os s' (trs ++ [(i, tr)]) K) : runL P T n ops i (o :: os) s trs K :=
  step_mono h fun s1 t1 ⟨e1, e2⟩ => by rw [e1, e2]; exact h2
def dstOk (n : Nat) : Option Tmp → Bool
  | some d => decide (d < n)
  | none => true
theorem dstOk_iff {n : Nat} {d : Option Tmp} (h : dstOk n d = true) : match (generalizing := false) d with | some d => d < n | none => True := by
  cases d with
  | none => trivial
  | some d => simpa [dstOk] using h
def plainOp : Op → Bool
  | .call c => match c.callee with | .value _ => false | _ => true
  | _ => true
theorem stepOp_plain {o : Oper} {s : S} {u : Out} (hp : plainOp o.op = true) (hu : out T s o.op (dOf' o) = some u) (hob : u.ob) : stepOp P T o s (fun s1 t1 => s1 = s.app o.dst u.v u.X u.M ∧ t1 = trOf s o u.v u.W u.R u.M) := by
  unfold stepOp
  split
  · rename_i c hc
    rw [hc] at hp
    split
    · rename_i f hf
      simp [plainOp, hf] at hp
    · rw [hu]; exact ⟨hob, rfl, rfl⟩
  · rw [hu]; exact ⟨hob, rfl, rfl⟩
theorem R_op {d : Tmp} {op : Op} {ty : TypeId} {pos : String} {after : Array Edge} {ts : List (Nat × AV)} {ms ms' : List (Nat × Option Ob)} {v : AV} {X W R : List Nat} {ob : Prop}
    (hu : out T (St ts ms) op d = some ⟨v, X, lookM ms', W, R, ob⟩) (hd : decide (d < n) = true) (hp : plainOp op = true) (hob : ob)
    (h : runL P T n ops (i + 1) os (St ((d, v) :: ts.map fun p => (p.1, scr X p.2)) ms') (trs ++ [(i, trOf (St ts ms) ⟨some d, op, ty, pos, after, none⟩ v W R (lookM ms'))]) K) :
    runL P T n ops i (⟨some d, op, ty, pos, after, none⟩ :: os) (St ts ms) trs K := by
  refine R_step (step_op_of (fun d' hd' => ?_) (.inl rfl) (stepOp_plain (u := ⟨v, X, lookM ms', W, R, ob⟩) hp hu hob)) ?_
  · cases hd'; simpa using hd
  · rw [app_some]; exact h
theorem R_op0 {d : Tmp} {op : Op} {ty : TypeId} {pos : String} {after : Array Edge} {ts : List (Nat × AV)} {ms ms' : List (Nat × Option Ob)} {v : AV} {W R : List Nat} {ob : Prop}
    (hu : out T (St ts ms) op d = some ⟨v, [], lookM ms', W, R, ob⟩) (hd : decide (d < n) = true) (hp : plainOp op = true) (hob : ob)
    (h : runL P T n ops (i + 1) os (St ((d, v) :: ts) ms') (trs ++ [(i, trOf (St ts ms) ⟨some d, op, ty, pos, after, none⟩ v W R (lookM ms'))]) K) :
    runL P T n ops i (⟨some d, op, ty, pos, after, none⟩ :: os) (St ts ms) trs K := by
  refine R_op hu hd hp hob ?_
  simpa [scr_nil] using h
theorem R_st {op : Op} {ty : TypeId} {pos : String} {after : Array Edge} {ts : List (Nat × AV)} {ms ms' : List (Nat × Option Ob)} {v : AV} {X W R : List Nat} {ob : Prop}
    (hu : out T (St ts ms) op 999 = some ⟨v, X, lookM ms', W, R, ob⟩) (hp : plainOp op = true) (hob : ob)
    (h : runL P T n ops (i + 1) os (St (ts.map fun p => (p.1, scr X p.2)) ms') (trs ++ [(i, trOf (St ts ms) ⟨none, op, ty, pos, after, none⟩ v W R (lookM ms'))]) K) :
    runL P T n ops i (⟨none, op, ty, pos, after, none⟩ :: os) (St ts ms) trs K := by
  refine R_step (step_op_of (fun d' hd' => by cases hd') (.inl rfl) (stepOp_plain (u := ⟨v, X, lookM ms', W, R, ob⟩) hp hu hob)) ?_
  rw [app_none]; exact h
theorem R_st0 {op : Op} {ty : TypeId} {pos : String} {after : Array Edge} {ts : List (Nat × AV)} {ms ms' : List (Nat × Option Ob)} {v : AV} {W R : List Nat} {ob : Prop}
    (hu : out T (St ts ms) op 999 = some ⟨v, [], lookM ms', W, R, ob⟩) (hp : plainOp op = true) (hob : ob)
    (h : runL P T n ops (i + 1) os (St ts ms') (trs ++ [(i, trOf (St ts ms) ⟨none, op, ty, pos, after, none⟩ v W R (lookM ms'))]) K) :
    runL P T n ops i (⟨none, op, ty, pos, after, none⟩ :: os) (St ts ms) trs K := by
  refine R_st hu hp hob ?_
  simpa [scr_nil] using h
theorem upd_same' {α : Type} (f : Nat → α) (k : Nat) {v : α} (h : f k = v) : upd f k v = f := upd_self f k h
def opnds : Op → List Operand
  | .slice _ x l h m => x :: (l.toList ++ (h.toList ++ m.toList))
  | .build _ ps | .buildSlice _ _ ps => ps.toList.map (·.2)
  | .call c => match c.callee with
    | .value f => f :: c.args.toList
    | .invoke r _ => r :: c.args.toList
    | .builtin _ => c.args.toList
  | .makeFunc _ first caps => first.toList ++ caps.toList
  | .move x | .assign x | .box _ x | .load _ x | .nilCheck x | .unOp _ _ x | .convert _ _ x | .fieldAddr _ x _ | .field _ x _ | .extract x _ => [x]
  | .pick c a b => [c, a, b]
  | .store _ a v | .binOp _ _ a v _ | .makeSlice _ a v | .indexAddr _ a v | .index _ a v => [a, v]
  | .alloc _ => []
  | o => o.operands.toList
theorem opnds_eq (o : Op) : o.operands.toList = opnds o := by
  cases o <;> try rfl
  all_goals first
    | (simp [Op.operands, opnds]; done)
    | (rename_i c; obtain ⟨cl, ars, ts⟩ := c; cases cl <;> simp [Op.operands, opnds, Call.operands])
theorem opKeys_eq (s : S) (d : Option Tmp) (op : Op) (ty : TypeId) (pos : String) (after : Array Edge) (g : Option (Nat × Bool)) : opKeys s ⟨d, op, ty, pos, after, g⟩ = (opnds op).flatMap fun x => (eval s x).keys := by
  unfold opKeys; rw [← opnds_eq]
theorem RD_op0 {Q : Exit → S → Prop} {d : Tmp} {op : Op} {ty : TypeId} {pos : String} {after : Array Edge} {ts : List (Nat × AV)} {ms ms' : List (Nat × Option Ob)} {v : AV} {W R : List Nat} {ob : Prop} {tr : Tr} {j : Nat}
    (hu : out T (St ts ms) op d = some ⟨v, [], lookM ms', W, R, ob⟩) (hd : decide (d < n) = true) (hp : plainOp op = true) (hob : ob) (htr : trOf (St ts ms) ⟨some d, op, ty, pos, after, none⟩ v W R (lookM ms') = tr) (hj : i + 1 = j)
    (h : runL P T n ops j os (St ((d, v) :: ts) ms') (trs ++ [(i, tr)]) (endD ops Q)) :
    runL P T n ops i (⟨some d, op, ty, pos, after, none⟩ :: os) (St ts ms) trs (endD ops Q) := by
  subst htr hj; exact R_op0 hu hd hp hob h
theorem RD_st0 {Q : Exit → S → Prop} {op : Op} {ty : TypeId} {pos : String} {after : Array Edge} {ts : List (Nat × AV)} {ms ms' : List (Nat × Option Ob)} {v : AV} {W R : List Nat} {ob : Prop} {tr : Tr} {j : Nat}
    (hu : out T (St ts ms) op 999 = some ⟨v, [], lookM ms', W, R, ob⟩) (hp : plainOp op = true) (hob : ob) (htr : trOf (St ts ms) ⟨none, op, ty, pos, after, none⟩ v W R (lookM ms') = tr) (hj : i + 1 = j)
    (h : runL P T n ops j os (St ts ms') (trs ++ [(i, tr)]) (endD ops Q)) :
    runL P T n ops i (⟨none, op, ty, pos, after, none⟩ :: os) (St ts ms) trs (endD ops Q) := by
  subst htr hj; exact R_st0 hu hp hob h
theorem R_opX {d : Tmp} {op : Op} {ty : TypeId} {pos : String} {after : Array Edge} {ts ts' : List (Nat × AV)} {ms ms' : List (Nat × Option Ob)} {v : AV} {X W R : List Nat} {ob : Prop}
    (hu : out T (St ts ms) op d = some ⟨v, X, lookM ms', W, R, ob⟩) (hd : decide (d < n) = true) (hp : plainOp op = true) (hob : ob) (hts : ts.map (fun p => (p.1, scr X p.2)) = ts')
    (h : runL P T n ops (i + 1) os (St ((d, v) :: ts') ms') (trs ++ [(i, trOf (St ts ms) ⟨some d, op, ty, pos, after, none⟩ v W R (lookM ms'))]) K) :
    runL P T n ops i (⟨some d, op, ty, pos, after, none⟩ :: os) (St ts ms) trs K := by
  subst hts; exact R_op hu hd hp hob h
theorem R_stX {op : Op} {ty : TypeId} {pos : String} {after : Array Edge} {ts ts' : List (Nat × AV)} {ms ms' : List (Nat × Option Ob)} {v : AV} {X W R : List Nat} {ob : Prop}
    (hu : out T (St ts ms) op 999 = some ⟨v, X, lookM ms', W, R, ob⟩) (hp : plainOp op = true) (hob : ob) (hts : ts.map (fun p => (p.1, scr X p.2)) = ts')
    (h : runL P T n ops (i + 1) os (St ts' ms') (trs ++ [(i, trOf (St ts ms) ⟨none, op, ty, pos, after, none⟩ v W R (lookM ms'))]) K) :
    runL P T n ops i (⟨none, op, ty, pos, after, none⟩ :: os) (St ts ms) trs K := by
  subst hts; exact R_st hu hp hob h
theorem RD_opX {Q : Exit → S → Prop} {d : Tmp} {op : Op} {ty : TypeId} {pos : String} {after : Array Edge} {ts ts' : List (Nat × AV)} {ms ms' : List (Nat × Option Ob)} {v : AV} {X W R : List Nat} {ob : Prop} {tr : Tr} {j : Nat}
    (hu : out T (St ts ms) op d = some ⟨v, X, lookM ms', W, R, ob⟩) (hd : decide (d < n) = true) (hp : plainOp op = true) (hob : ob) (hts : ts.map (fun p => (p.1, scr X p.2)) = ts') (htr : trOf (St ts ms) ⟨some d, op, ty, pos, after, none⟩ v W R (lookM ms') = tr) (hj : i + 1 = j)
    (h : runL P T n ops j os (St ((d, v) :: ts') ms') (trs ++ [(i, tr)]) (endD ops Q)) :
    runL P T n ops i (⟨some d, op, ty, pos, after, none⟩ :: os) (St ts ms) trs (endD ops Q) := by
  subst hts htr hj; exact R_op hu hd hp hob h
theorem RD_stX {Q : Exit → S → Prop} {op : Op} {ty : TypeId} {pos : String} {after : Array Edge} {ts ts' : List (Nat × AV)} {ms ms' : List (Nat × Option Ob)} {v : AV} {X W R : List Nat} {ob : Prop} {tr : Tr} {j : Nat}
    (hu : out T (St ts ms) op 999 = some ⟨v, X, lookM ms', W, R, ob⟩) (hp : plainOp op = true) (hob : ob) (hts : ts.map (fun p => (p.1, scr X p.2)) = ts') (htr : trOf (St ts ms) ⟨none, op, ty, pos, after, none⟩ v W R (lookM ms') = tr) (hj : i + 1 = j)
    (h : runL P T n ops j os (St ts' ms') (trs ++ [(i, tr)]) (endD ops Q)) :
    runL P T n ops i (⟨none, op, ty, pos, after, none⟩ :: os) (St ts ms) trs (endD ops Q) := by
  subst hts htr hj; exact R_st hu hp hob h
theorem R_yes {d : Option Tmp} {op : Op} {ty : TypeId} {pos : String} {after : Array Edge} {g : Nat} {t : Tmp} {want : Bool} {s : S} (hg : guardOf ops g = some t) (hb : s.tm t = .d (.lit (.bool want)))
    (h : runL P T n ops i (⟨d, op, ty, pos, after, none⟩ :: os) s trs K) : runL P T n ops i (⟨d, op, ty, pos, after, some (g, want)⟩ :: os) s trs K := by
  obtain ⟨s', tr, h1, h2⟩ := step_ex h
  obtain ⟨hd, h3⟩ := step_cases h1
  refine R_step (step_op_of hd (.inr ⟨g, want, t, rfl, hg, hb⟩) ?_) h2
  rcases h3 with ⟨_, _, _, e, _⟩ | ⟨_, h4⟩
  · cases e
  · exact h4
theorem R_no {d : Tmp} {op : Op} {ty : TypeId} {pos : String} {after : Array Edge} {g : Nat} {t : Tmp} {want : Bool} {ts : List (Nat × AV)} {ms : List (Nat × Option Ob)} (hg : guardOf ops g = some t) (hb : look ts t = .d (.lit (.bool !want))) (hd : decide (d < n) = true)
    (h : runL P T n ops (i + 1) os (St ((d, .tup []) :: ts) ms) (trs ++ [(i, ⟨[], []⟩)]) K) : runL P T n ops i (⟨some d, op, ty, pos, after, some (g, want)⟩ :: os) (St ts ms) trs K := by
  have := step_skip_of (P := P) (T := T) (n := n) (ops := ops) (o := ⟨some d, op, ty, pos, after, some (g, want)⟩) (s := St ts ms) (fun d' hd' => by cases hd'; simpa using hd) rfl hg (.inl hb)
  refine R_step this ?_
  rw [St_M, app_some0]; exact h
theorem R_no' {op : Op} {ty : TypeId} {pos : String} {after : Array Edge} {g : Nat} {t : Tmp} {want : Bool} {ts : List (Nat × AV)} {ms : List (Nat × Option Ob)} (hg : guardOf ops g = some t) (hb : look ts t = .d (.lit (.bool !want)))
    (h : runL P T n ops (i + 1) os (St ts ms) (trs ++ [(i, ⟨[], []⟩)]) K) : runL P T n ops i (⟨none, op, ty, pos, after, some (g, want)⟩ :: os) (St ts ms) trs K := by
  have := step_skip_of (P := P) (T := T) (n := n) (ops := ops) (o := ⟨none, op, ty, pos, after, some (g, want)⟩) (s := St ts ms) (fun d' hd' => by cases hd') rfl hg (.inl hb)
  refine R_step this ?_
  rw [St_M, app_none0]; exact h
theorem R_nos {d : Tmp} {op : Op} {ty : TypeId} {pos : String} {after : Array Edge} {g : Nat} {t : Tmp} {want : Bool} {ts : List (Nat × AV)} {ms : List (Nat × Option Ob)} (hg : guardOf ops g = some t) (hb : look ts t = .tup []) (hd : decide (d < n) = true)
    (h : runL P T n ops (i + 1) os (St ((d, .tup []) :: ts) ms) (trs ++ [(i, ⟨[], []⟩)]) K) : runL P T n ops i (⟨some d, op, ty, pos, after, some (g, want)⟩ :: os) (St ts ms) trs K := by
  have := step_skip_of (P := P) (T := T) (n := n) (ops := ops) (o := ⟨some d, op, ty, pos, after, some (g, want)⟩) (s := St ts ms) (fun d' hd' => by cases hd'; simpa using hd) rfl hg (.inr hb)
  refine R_step this ?_
  rw [St_M, app_some0]; exact h
theorem R_nos' {op : Op} {ty : TypeId} {pos : String} {after : Array Edge} {g : Nat} {t : Tmp} {want : Bool} {ts : List (Nat × AV)} {ms : List (Nat × Option Ob)} (hg : guardOf ops g = some t) (hb : look ts t = .tup [])
    (h : runL P T n ops (i + 1) os (St ts ms) (trs ++ [(i, ⟨[], []⟩)]) K) : runL P T n ops i (⟨none, op, ty, pos, after, some (g, want)⟩ :: os) (St ts ms) trs K := by
  have := step_skip_of (P := P) (T := T) (n := n) (ops := ops) (o := ⟨none, op, ty, pos, after, some (g, want)⟩) (s := St ts ms) (fun d' hd' => by cases hd') rfl hg (.inr hb)
  refine R_step this ?_
  rw [St_M, app_none0]; exact h
theorem R_ask {o : Oper} {t : Tmp} {b : Bool} {ts : List (Nat × AV)} {ms : List (Nat × Option Ob)} (hb : look ts t = .d (.lit (.bool b)))
    (hT : b = true → runL P T n ops i (o :: os) (St ((t, .d (.lit (.bool true))) :: ts) ms) trs K)
    (hF : b = false → runL P T n ops i (o :: os) (St ((t, .d (.lit (.bool false))) :: ts) ms) trs K) : runL P T n ops i (o :: os) (St ts ms) trs K := by
  have e : ∀ b', b = b' → St ((t, .d (.lit (.bool b'))) :: ts) ms = St ts ms := by
    rintro b' rfl
    unfold St; congr 1; funext x
    simp only [look]; split
    · rename_i e; rw [e, hb]
    · rfl
  cases b with
  | true => rw [← e true rfl]; exact hT rfl
  | false => rw [← e false rfl]; exact hF rfl
theorem scr_list : ∀ ts : List (Nat × AV), ts.map (fun p => (p.1, scr [] p.2)) = ts
  | [] => rfl
  | (k, v) :: ts => by rw [List.map_cons, scr_list ts, scr_nil]
theorem R_call {d : Tmp} {c : Call} {f : Operand} {ty : TypeId} {pos : String} {after : Array Edge} {ts : List (Nat × AV)} {ms : List (Nat × Option Ob)} {fid : Nat} {caps : List (Nat × Nat × Nat)} (ks : List Nat) {args : List AV} {r : AV} {Ms Ms' OW : List Ob} {X : List Nat}
    (hc : C P fid args Ms r Ms' OW) (hf : c.callee = .value f) (he : eval (St ts ms) f = .fn fid caps) (hd : decide (d < n) = true) (hok : callOk (St ts ms) ks d OW)
    (hargs : callArgs (St ts ms) ks c caps = args) (hMs : callMs (St ts ms) ks = Ms) (hX : callX (St ts ms) ks = X) {ms' : List (Nat × Option Ob)} (hms : callL ts ms ks d Ms' OW = ms') {v : AV} (hv : r.ren (rb ks d) = v) {ts' : List (Nat × AV)} (hts : ts.map (fun p => (p.1, scr X p.2)) = ts')
    (h : runL P T n ops (i + 1) os (St ((d, v) :: ts') ms') (trs ++ [(i, trOf (St ts ms) ⟨some d, .call c, ty, pos, after, none⟩ v (ks ++ ownKeys d OW) ks (lookM ms'))]) K) :
    runL P T n ops i (⟨some d, .call c, ty, pos, after, none⟩ :: os) (St ts ms) trs K := by
  subst hargs hMs hX hms hv hts
  have h1 : Step P T n ops ⟨some d, .call c, ty, pos, after, none⟩ (St ts ms) (S.app (St ts ms) (some d) (r.ren (rb ks d)) (callX (St ts ms) ks) (callM (St ts ms) ks d Ms' OW)) (trOf (St ts ms) ⟨some d, .call c, ty, pos, after, none⟩ (r.ren (rb ks d)) (ks ++ ownKeys d OW) ks (callM (St ts ms) ks d Ms' OW)) := by
    refine step_op_of (fun d' hd' => by cases hd'; simpa using hd) (.inl rfl) ?_
    unfold stepOp
    simp only [hf, he]
    exact ⟨ks, ks, r, Ms', OW, fun _ h => h, fun k h h' => absurd h h', hok, hc, rfl, rfl⟩
  refine R_step h1 ?_
  rw [callM_lookM, app_some]; exact h
theorem R_call0 {d : Tmp} {c : Call} {f : Operand} {ty : TypeId} {pos : String} {after : Array Edge} {ts : List (Nat × AV)} {ms : List (Nat × Option Ob)} {fid : Nat} {args : List AV} {r : AV}
    (hc : C P fid args [] r [] []) (hf : c.callee = .value f) (he : eval (St ts ms) f = .fn fid []) (hd : decide (d < n) = true)
    (hargs : c.args.toList.map (fun x => toArg (St ts ms) [] (eval (St ts ms) x)) = args) (hv : r.keys = []) (hv2 : r.ren (rb [] d) = r)
    (h : runL P T n ops (i + 1) os (St ((d, r) :: ts) ms) (trs ++ [(i, trOf (St ts ms) ⟨some d, .call c, ty, pos, after, none⟩ r [] [] (lookM ms))]) K) :
    runL P T n ops i (⟨some d, .call c, ty, pos, after, none⟩ :: os) (St ts ms) trs K := by
  refine R_call [] hc hf he hd ⟨List.nodup_nil, by simp, by simp, by simp, by simp⟩ (by simpa [callArgs] using hargs) rfl rfl (callL_nil ts ms d) hv2 (ts' := ts) (scr_list ts) ?_
  exact h
end
theorem scr_listM : ∀ ms : List (Nat × Option Ob), ms.map (fun p => (p.1, p.2.map (Ob.scr []))) = ms
  | [] => rfl
  | (k, none) :: ms => by rw [List.map_cons, scr_listM ms]; rfl
  | (k, some o) :: ms => by rw [List.map_cons, scr_listM ms, Option.map_some, Ob.scr_nil]
def retL (ρ : Nat → Nat) : List Nat → List Ob → List (Nat × Option Ob)
  | k :: ks, o :: l => (k, some (o.ren ρ)) :: retL ρ ks l
  | _, _ => []
def ownL (ρ : Nat → Nat) : Nat → List Ob → List (Nat × Option Ob)
  | b, o :: l => (b, some (o.ren ρ)) :: ownL ρ (b + 1) l
  | _, [] => []
def nodupB : List Nat → Bool
  | [] => true
  | k :: ks => !ks.contains k && nodupB ks
theorem nodupB_ok : ∀ {ks : List Nat}, nodupB ks = true → ks.Nodup
  | [], _ => List.nodup_nil
  | k :: ks, h => by
    simp only [nodupB, Bool.and_eq_true, Bool.not_eq_true'] at h
    exact List.nodup_cons.2 ⟨by simpa using h.1, nodupB_ok h.2⟩
def callB (ms : List (Nat × Option Ob)) (ks : List Nat) (d : Nat) (n m : Nat) : Bool :=
  nodupB ks && decide (ks.length ≤ 1000) && Nat.beq m ks.length && (ks.all fun k => (lookM ms k).isSome) && (ks.all fun k => match lookM ms k with | some o => o.keys.all ks.contains | none => true) && (List.range n).all fun j => (lookM ms (2000 + 8 * d + j)).isNone
theorem retL_look (ρ : Nat → Nat) : ∀ (ks : List Nat) (Ms : List Ob) (rest : List (Nat × Option Ob)) (k : Nat), ks.Nodup → Ms.length = ks.length → lookM (retL ρ ks Ms ++ rest) k = if k ∈ ks then (Ms[ks.idxOf k]?).map (Ob.ren ρ) else lookM rest k
  | [], [], rest, k, _, _ => by simp [retL]
  | [], _ :: _, _, _, _, h => by simp at h
  | _ :: _, [], _, _, _, h => by simp at h
  | x :: ks, o :: Ms, rest, k, hn, hl => by
    have hn' := List.nodup_cons.1 hn
    simp only [retL, List.cons_append, lookM]
    rw [retL_look ρ ks Ms rest k hn'.2 (by simpa using hl)]
    by_cases e : k = x
    · subst e; simp
    · rw [if_neg e]
      have : ¬ x = k := fun h => e h.symm
      have hb : (x == k) = false := by simpa using this
      simp [List.idxOf_cons, e, hb]
theorem ownL_look (ρ : Nat → Nat) : ∀ (OW : List Ob) (b : Nat) (rest : List (Nat × Option Ob)) (k : Nat), lookM (ownL ρ b OW ++ rest) k = if b ≤ k ∧ k < b + OW.length then (OW[k - b]?).map (Ob.ren ρ) else lookM rest k
  | [], b, rest, k => by rw [if_neg (fun h => by simp only [List.length_nil] at h; omega)]; rfl
  | o :: OW, b, rest, k => by
    simp only [ownL, List.cons_append, lookM]
    rw [ownL_look ρ OW (b + 1) rest k]
    by_cases e : k = b
    · subst e; simp
    · rw [if_neg e]
      by_cases h : b + 1 ≤ k ∧ k < b + 1 + OW.length
      · rw [if_pos h, if_pos (by simp; omega), show k - b = (k - (b + 1)) + 1 by omega]; simp
      · rw [if_neg h, if_neg (by simp; omega)]
theorem R_callB {P : Program} {T : Tab} {n : Nat} {ops : Array Oper} {i : Nat} {os : List Oper} {trs : List (Nat × Tr)} {K : S → List (Nat × Tr) → Prop} {d : Tmp} {c : Call} {f : Operand} {ty : TypeId} {pos : String} {after : Array Edge} {ts : List (Nat × AV)} {ms : List (Nat × Option Ob)} {fid : Nat} {caps : List (Nat × Nat × Nat)} (ks : List Nat) {args : List AV} {r : AV} {Ms Ms' OW : List Ob} {X : List Nat}
    (hc : C P fid args Ms r Ms' OW) (hf : c.callee = .value f) (he : eval (St ts ms) f = .fn fid caps) (hd : decide (d < n) = true) (hok : callB ms ks d OW.length Ms'.length = true)
    (hargs : callArgs (St ts ms) ks c caps = args) (hMs : callMs (St ts ms) ks = Ms) (hX : callX (St ts ms) ks = X) {ms' : List (Nat × Option Ob)} (hms : retL (rb ks d) ks Ms' ++ (ownL (rb ks d) (2000 + 8 * d) OW ++ ms.map fun p => (p.1, p.2.map (Ob.scr X))) = ms') {v : AV} (hv : r.ren (rb ks d) = v) {ts' : List (Nat × AV)} (hts : ts.map (fun p => (p.1, scr X p.2)) = ts')
    (h : runL P T n ops (i + 1) os (St ((d, v) :: ts') ms') (trs ++ [(i, trOf (St ts ms) ⟨some d, .call c, ty, pos, after, none⟩ v (ks ++ ownKeys d OW) ks (lookM ms'))]) K) :
    runL P T n ops i (⟨some d, .call c, ty, pos, after, none⟩ :: os) (St ts ms) trs K := by
  unfold callB at hok
  simp only [Bool.and_eq_true, decide_eq_true_eq, List.all_eq_true] at hok
  obtain ⟨⟨⟨⟨⟨h1, h2⟩, h6⟩, h3⟩, h4⟩, h5⟩ := hok
  have hnd := nodupB_ok h1
  have hlen : Ms'.length = ks.length := Nat.eq_of_beq_eq_true h6
  have hok' : callOk (St ts ms) ks d OW := by
    refine ⟨hnd, h2, h3, fun k hk o ho k' hk' => ?_, fun j hj => ?_⟩
    · have := h4 k hk
      rw [show lookM ms k = some o from ho] at this
      simpa using List.all_eq_true.1 this k' hk'
    · have := h5 j (List.mem_range.2 hj)
      exact Option.isNone_iff_eq_none.1 this
  have hlk : callM (St ts ms) ks d Ms' OW = lookM ms' := by
    subst hms
    funext k
    rw [retL_look _ ks Ms' _ k hnd hlen, ownL_look]
    unfold callM
    subst hX
    by_cases hk : k ∈ ks
    · rw [if_pos (by simpa using hk), if_pos hk]
    · rw [if_neg (by simpa using hk), if_neg hk]
      by_cases hown : 2000 + 8 * d ≤ k ∧ k < 2000 + 8 * d + OW.length
      · rw [if_pos hown, if_pos hown]
      · rw [if_neg hown, if_neg hown]
        exact congrFun (lookM_map (Ob.scr (callX (St ts ms) ks)) ms) k
  subst hargs hMs hX hv hts
  have h1 : Step P T n ops ⟨some d, .call c, ty, pos, after, none⟩ (St ts ms) (S.app (St ts ms) (some d) (r.ren (rb ks d)) (callX (St ts ms) ks) (callM (St ts ms) ks d Ms' OW)) (trOf (St ts ms) ⟨some d, .call c, ty, pos, after, none⟩ (r.ren (rb ks d)) (ks ++ ownKeys d OW) ks (callM (St ts ms) ks d Ms' OW)) := by
    refine step_op_of (fun d' hd' => by cases hd'; simpa using hd) (.inl rfl) ?_
    unfold stepOp
    simp only [hf, he]
    exact ⟨ks, ks, r, Ms', OW, fun _ h => h, fun k h h' => absurd h h', hok', hc, rfl, rfl⟩
  refine R_step h1 ?_
  rw [hlk, app_some]; exact h
theorem runL_imp {P : Program} {T : Tab} {n : Nat} {ops : Array Oper} {K K' : S → List (Nat × Tr) → Prop} (hk : ∀ s trs, K s trs → K' s trs) : ∀ (os : List Oper) (i : Nat) (s : S) (trs : List (Nat × Tr)), runL P T n ops i os s trs K → runL P T n ops i os s trs K'
  | [], _, s, trs, h => hk s trs h
  | _ :: os, i, _, trs, h => step_mono h fun s1 t1 h1 => runL_imp hk os (i + 1) s1 (trs ++ [(i, t1)]) h1
theorem RD_call0 {P : Program} {T : Tab} {n : Nat} {ops : Array Oper} {i : Nat} {os : List Oper} {trs : List (Nat × Tr)} {Q : Exit → S → Prop} {d : Tmp} {c : Call} {f : Operand} {ty : TypeId} {pos : String} {after : Array Edge} {ts : List (Nat × AV)} {ms : List (Nat × Option Ob)} {fid : Nat} {args : List AV} {r : AV} {tr : Tr} {j : Nat}
    (hc : C P fid args [] r [] []) (hf : c.callee = .value f) (he : eval (St ts ms) f = .fn fid []) (hd : decide (d < n) = true)
    (hargs : c.args.toList.map (fun x => toArg (St ts ms) [] (eval (St ts ms) x)) = args) (hv : r.keys = []) (hv2 : r.ren (rb [] d) = r) (htr : trOf (St ts ms) ⟨some d, .call c, ty, pos, after, none⟩ r [] [] (lookM ms) = tr) (hj : i + 1 = j)
    (h : runL P T n ops j os (St ((d, r) :: ts) ms) (trs ++ [(i, tr)]) (endD ops Q)) :
    runL P T n ops i (⟨some d, .call c, ty, pos, after, none⟩ :: os) (St ts ms) trs (endD ops Q) := by
  subst htr hj; exact R_call0 hc hf he hd hargs hv hv2 h
theorem RD_callB {P : Program} {T : Tab} {n : Nat} {ops : Array Oper} {i : Nat} {os : List Oper} {trs : List (Nat × Tr)} {Q : Exit → S → Prop} {d : Tmp} {c : Call} {f : Operand} {ty : TypeId} {pos : String} {after : Array Edge} {ts : List (Nat × AV)} {ms : List (Nat × Option Ob)} {fid : Nat} {caps : List (Nat × Nat × Nat)} (ks : List Nat) {args : List AV} {r : AV} {Ms Ms' OW : List Ob} {X : List Nat} {tr : Tr} {j : Nat}
    (hc : C P fid args Ms r Ms' OW) (hf : c.callee = .value f) (he : eval (St ts ms) f = .fn fid caps) (hd : decide (d < n) = true) (hok : callB ms ks d OW.length Ms'.length = true)
    (hargs : callArgs (St ts ms) ks c caps = args) (hMs : callMs (St ts ms) ks = Ms) (hX : callX (St ts ms) ks = X) {ms' : List (Nat × Option Ob)} (hms : retL (rb ks d) ks Ms' ++ (ownL (rb ks d) (2000 + 8 * d) OW ++ ms.map fun p => (p.1, p.2.map (Ob.scr X))) = ms') {v : AV} (hv : r.ren (rb ks d) = v) {ts' : List (Nat × AV)} (hts : ts.map (fun p => (p.1, scr X p.2)) = ts')
    (htr : trOf (St ts ms) ⟨some d, .call c, ty, pos, after, none⟩ v (ks ++ ownKeys d OW) ks (lookM ms') = tr) (hj : i + 1 = j)
    (h : runL P T n ops j os (St ((d, v) :: ts') ms') (trs ++ [(i, tr)]) (endD ops Q)) :
    runL P T n ops i (⟨some d, .call c, ty, pos, after, none⟩ :: os) (St ts ms) trs (endD ops Q) := by
  subst htr hj; exact R_callB ks hc hf he hd hok hargs hMs hX hms hv hts h
theorem R_callC {P : Program} {T : Tab} {n : Nat} {ops : Array Oper} {i : Nat} {os : List Oper} {trs : List (Nat × Tr)} {K : S → List (Nat × Tr) → Prop} {d : Tmp} {c : Call} {f : Operand} {ty : TypeId} {pos : String} {after : Array Edge} {ts : List (Nat × AV)} {ms : List (Nat × Option Ob)} {fid : Nat} {caps : List (Nat × Nat × Nat)} (ks : List Nat) {args : List AV} {r : AV} {Ms Ms' OW : List Ob}
    (hc : C P fid args Ms r Ms' OW) (hf : c.callee = .value f) (he : eval (St ts ms) f = .fn fid caps) (hd : decide (d < n) = true) (hok : callB ms ks d OW.length Ms'.length = true)
    (hargs : callArgs (St ts ms) ks c caps = args) (hMs : callMs (St ts ms) ks = Ms) (hsame : retL (rb ks d) ks Ms' = ks.map fun k => (k, lookM ms k)) {ms' : List (Nat × Option Ob)} (hms : ownL (rb ks d) (2000 + 8 * d) OW ++ ms = ms') {v : AV} (hv : r.ren (rb ks d) = v)
    (h : runL P T n ops (i + 1) os (St ((d, v) :: ts) ms') (trs ++ [(i, trOf (St ts ms) ⟨some d, .call c, ty, pos, after, none⟩ v (ownKeys d OW) ks (lookM ms'))]) K) :
    runL P T n ops i (⟨some d, .call c, ty, pos, after, none⟩ :: os) (St ts ms) trs K := by
  unfold callB at hok
  simp only [Bool.and_eq_true, decide_eq_true_eq, List.all_eq_true] at hok
  obtain ⟨⟨⟨⟨⟨h1, h2⟩, h6⟩, h3⟩, h4⟩, h5⟩ := hok
  have hnd := nodupB_ok h1
  have hlen : Ms'.length = ks.length := Nat.eq_of_beq_eq_true h6
  have hown : ∀ j, j < OW.length → lookM ms (2000 + 8 * d + j) = none := fun j hj => Option.isNone_iff_eq_none.1 (h5 j (List.mem_range.2 hj))
  have hok' : callOk (St ts ms) ks d OW := by
    refine ⟨hnd, h2, h3, fun k hk o ho k' hk' => ?_, hown⟩
    have := h4 k hk
    rw [show lookM ms k = some o from ho] at this
    simpa using List.all_eq_true.1 this k' hk'
  have hret : ∀ k ∈ ks, callM (St ts ms) ks d Ms' OW k = lookM ms k := by
    intro k hk
    have e1 := retL_look (rb ks d) ks Ms' [] k hnd hlen
    rw [if_pos hk, hsame, lookM_append k (fun k => lookM ms k), if_pos hk] at e1
    unfold callM
    rw [if_pos (by simpa using hk), ← e1]
  have hlk : callM (St ts ms) ks d Ms' OW = lookM ms' := by
    subst hms
    funext k
    rw [ownL_look]
    by_cases hk : k ∈ ks
    · rw [hret k hk]
      split
      · rename_i ho
        obtain ⟨ho1, ho2⟩ := ho
        have h7 := h3 k hk
        obtain ⟨j, hj⟩ : ∃ j, k = 2000 + 8 * d + j := ⟨k - (2000 + 8 * d), (Nat.add_sub_cancel' ho1).symm⟩
        have h8 := hown j (by rw [hj] at ho2; exact Nat.lt_of_add_lt_add_left ho2)
        rw [← hj] at h8
        rw [h8] at h7; cases h7
      · rfl
    · unfold callM
      rw [if_neg (by simpa using hk)]
      by_cases ho : 2000 + 8 * d ≤ k ∧ k < 2000 + 8 * d + OW.length
      · rw [if_pos ho, if_pos ho]
      · rw [if_neg ho, if_neg ho]
        show (lookM ms k).map (Ob.scr []) = lookM ms k
        cases lookM ms k with
        | none => rfl
        | some o => rw [Option.map_some, Ob.scr_nil]
  subst hargs hMs hv
  have h1 : Step P T n ops ⟨some d, .call c, ty, pos, after, none⟩ (St ts ms) (S.app (St ts ms) (some d) (r.ren (rb ks d)) (callX (St ts ms) ks) (callM (St ts ms) ks d Ms' OW)) (trOf (St ts ms) ⟨some d, .call c, ty, pos, after, none⟩ (r.ren (rb ks d)) (ownKeys d OW) ks (callM (St ts ms) ks d Ms' OW)) := by
    refine step_op_of (fun d' hd' => by cases hd'; simpa using hd) (.inl rfl) ?_
    unfold stepOp
    simp only [hf, he]
    exact ⟨ks, [], r, Ms', OW, by simp, fun k hk _ => hret k hk, hok', hc, rfl, rfl⟩
  refine R_step h1 ?_
  rw [hlk]
  have e := app_some ts ms d (r.ren (rb ks d)) [] ms'
  rw [scr_list] at e
  show runL P T n ops (i + 1) os (S.app (St ts ms) (some d) (r.ren (rb ks d)) [] (lookM ms')) _ K
  rw [e]
  exact h
theorem RD_callC {P : Program} {T : Tab} {n : Nat} {ops : Array Oper} {i : Nat} {os : List Oper} {trs : List (Nat × Tr)} {Q : Exit → S → Prop} {d : Tmp} {c : Call} {f : Operand} {ty : TypeId} {pos : String} {after : Array Edge} {ts : List (Nat × AV)} {ms : List (Nat × Option Ob)} {fid : Nat} {caps : List (Nat × Nat × Nat)} (ks : List Nat) {args : List AV} {r : AV} {Ms Ms' OW : List Ob} {tr : Tr} {j : Nat}
    (hc : C P fid args Ms r Ms' OW) (hf : c.callee = .value f) (he : eval (St ts ms) f = .fn fid caps) (hd : decide (d < n) = true) (hok : callB ms ks d OW.length Ms'.length = true)
    (hargs : callArgs (St ts ms) ks c caps = args) (hMs : callMs (St ts ms) ks = Ms) (hsame : retL (rb ks d) ks Ms' = ks.map fun k => (k, lookM ms k)) {ms' : List (Nat × Option Ob)} (hms : ownL (rb ks d) (2000 + 8 * d) OW ++ ms = ms') {v : AV} (hv : r.ren (rb ks d) = v)
    (htr : trOf (St ts ms) ⟨some d, .call c, ty, pos, after, none⟩ v (ownKeys d OW) ks (lookM ms') = tr) (hj : i + 1 = j)
    (h : runL P T n ops j os (St ((d, v) :: ts) ms') (trs ++ [(i, tr)]) (endD ops Q)) :
    runL P T n ops i (⟨some d, .call c, ty, pos, after, none⟩ :: os) (St ts ms) trs (endD ops Q) := by
  subst htr hj; exact R_callC ks hc hf he hd hok hargs hMs hsame hms hv h
theorem W_reg {P : Program} {T : Tab} {cx : Ctx} {ops : Array Oper} {n : Nat} (hcx : cx.n = n) (hT : TyOk P T) (hm : P.follows .mixedOrders = true) (h9 : decide (n ≤ 999) = true) {id : Nat} {s : S} {Q : Exit → S → Prop} {l : List Oper} (hl : ops.toList = l)
    (h : runL P T n ops 0 l s [] fun s' _ => Q .normal s') : W P cx (.region id ops false) s Q := by
  subst hcx hl
  exact W_region hT (by simpa using h9) hm (runL_imp (fun s trs h => ⟨fun e => (by cases e), h⟩) _ _ _ _ h)
theorem W_regD {P : Program} {T : Tab} {cx : Ctx} {ops : Array Oper} {n : Nat} (hcx : cx.n = n) (hT : TyOk P T) (hm : P.follows .mixedOrders = true) (h9 : decide (n ≤ 999) = true) {id : Nat} {s : S} {Q : Exit → S → Prop} {l : List Oper} (hl : ops.toList = l) (hlow : lowB ops = true)
    (h : runL P T n ops 0 l s [] fun s' trs => endD ops Q s' trs) : W P cx (.region id ops true) s Q := by
  subst hcx hl
  exact W_region hT (by simpa using h9) hm (runL_imp (fun s trs h => ⟨fun _ => by rw [h.1, hlow]; rfl, h.2⟩) _ _ _ _ h)
end Go.Pw

namespace Go.Pw
open Go
section
variable {P : Program} {cx : Ctx} {s : S} {Q : Exit → S → Prop}
theorem tagR {T : Tab} {n : Nat} {ops : Array Oper} {i : Nat} {os : List Oper} {trs : List (Nat × Tr)} {K : S → List (Nat × Tr) → Prop} (h : runL P T n ops i os s trs K) : runL P T n ops i os s trs K := h
theorem tagD {T : Tab} {n : Nat} {ops : Array Oper} {i : Nat} {os : List Oper} {trs : List (Nat × Tr)} (h : runL P T n ops i os s trs (endD ops Q)) : runL P T n ops i os s trs (endD ops Q) := h
theorem tagG {T : Tab} {n : Nat} {ops : Array Oper} {i : Nat} {os : List Oper} {trs : List (Nat × Tr)} {K : S → List (Nat × Tr) → Prop} {d : Option Tmp} {op : Op} {ty : TypeId} {pos : String} {after : Array Edge} {g : Nat × Bool} (h : runL P T n ops i (⟨d, op, ty, pos, after, some g⟩ :: os) s trs K) : runL P T n ops i (⟨d, op, ty, pos, after, some g⟩ :: os) s trs K := h
theorem tagW {c : Code} (h : W P cx c s Q) : W P cx c s Q := h
theorem tagT {y : Code} {e : Exit} (h : thenQ P cx y Q e s) : thenQ P cx y Q e s := h
theorem tagB {id : Nat} {e : Exit} (h : blockQ id Q e s) : blockQ id Q e s := h
theorem thenQ_n {y : Code} (h : W P cx y s Q) : thenQ P cx y Q .normal s := h
theorem thenQ_e {y : Code} {id : Nat} (h : Q (.exit id) s) : thenQ P cx y Q (.exit id) s := h
theorem thenQ_r {y : Code} (h : Q .ret s) : thenQ P cx y Q .ret s := h
theorem blockQ_n {id : Nat} (h : Q .normal s) : blockQ id Q .normal s := h
theorem blockQ_r {id : Nat} (h : Q .ret s) : blockQ id Q .ret s := h
theorem blockQ_hit {id : Nat} (h : Q .normal s) : blockQ id Q (.exit id) s := by
  show (if id = id then Q .normal s else Q (.exit id) s)
  rw [if_pos rfl]; exact h
theorem blockQ_miss {id id' : Nat} (hne : Nat.beq id' id = false) (h : Q (.exit id') s) : blockQ id Q (.exit id') s := by
  show (if id' = id then Q .normal s else Q (.exit id') s)
  rw [if_neg (by intro e; subst e; simp at hne)]; exact h
def loopQ {α : Type} (cx : Ctx) (ts : α → List (Nat × AV)) (ms : α → List (Nat × Option Ob)) (m : α → Nat) (I : α → Prop) (x : α) (Q : Exit → S → Prop) : Exit → S → Prop
  | .normal, s' => ∃ x', m x' < m x ∧ I x' ∧ ∃ s'', G cx s' s'' ∧ subOk (ts x') (ms x') s''
  | e, s' => Q e s'
theorem loopQ_e {α : Type} {ts : α → List (Nat × AV)} {ms : α → List (Nat × Option Ob)} {m : α → Nat} {I : α → Prop} {x : α} {id : Nat} (h : Q (.exit id) s) : loopQ cx ts ms m I x Q (.exit id) s := h
theorem loopQ_r {α : Type} {ts : α → List (Nat × AV)} {ms : α → List (Nat × Option Ob)} {m : α → Nat} {I : α → Prop} {x : α} (h : Q .ret s) : loopQ cx ts ms m I x Q .ret s := h
theorem loopQ_n {α : Type} {ts : α → List (Nat × AV)} {ms : α → List (Nat × Option Ob)} {m : α → Nat} {I : α → Prop} {x : α} (x' : α) (h1 : m x' < m x) (h2 : I x') (h3 : subOk (ts x') (ms x') s) : loopQ cx ts ms m I x Q .normal s :=
  ⟨x', h1, h2, s, G.refl _ _, h3⟩
theorem W_loopQ {c : Code} {α : Type} (ts : α → List (Nat × AV)) (ms : α → List (Nat × Option Ob)) (m : α → Nat) (I : α → Prop) (x0 : α) (h0 : I x0) (hs : subOk (ts x0) (ms x0) s)
    (round : ∀ x, I x → W P cx c (St (ts x) (ms x)) (loopQ cx ts ms m I x Q)) : W P cx (.loop c) s Q :=
  W_loop_to ts ms m I x0 h0 hs fun x hx => W_mono (round x hx) fun e s' h => by cases e <;> exact h
theorem W_sub {c : Code} (ts : List (Nat × AV)) (ms : List (Nat × Option Ob)) (hs : subOk ts ms s) (h : W P cx c (St ts ms) Q) : W P cx c s Q := W_ghost (G_sub ts ms hs) h
theorem W_skip' (h : Q .normal s) : W P cx .skip s Q := W_skip h
theorem W_condT {c : Operand} {x y : Code} (hc : eval s c = .d (.lit (.bool true))) (h : W P cx x s Q) : W P cx (.cond c x y) s Q := W_cond hc (fun _ => h) (fun e => by cases e)
theorem W_condF {c : Operand} {x y : Code} (hc : eval s c = .d (.lit (.bool false))) (h : W P cx y s Q) : W P cx (.cond c x y) s Q := W_cond hc (fun e => by cases e) (fun _ => h)
theorem St_same {ts : List (Nat × AV)} {ms : List (Nat × Option Ob)} {t : Nat} {v : AV} (h : look ts t = v) : St ((t, v) :: ts) ms = St ts ms := by
  unfold St; congr 1; funext x
  simp only [look]; split
  · rename_i e; rw [e, h]
  · rfl
theorem W_condA {ts : List (Nat × AV)} {ms : List (Nat × Option Ob)} {t : Nat} {x y : Code} {b : Bool} (hc : look ts t = .d (.lit (.bool b))) (hT : b = true → W P cx x (St ((t, .d (.lit (.bool true))) :: ts) ms) Q) (hF : b = false → W P cx y (St ((t, .d (.lit (.bool false))) :: ts) ms) Q) : W P cx (.cond (.tmp t) x y) (St ts ms) Q :=
  W_cond hc (fun e => by subst e; have := hT rfl; rwa [St_same hc] at this) (fun e => by subst e; have := hF rfl; rwa [St_same hc] at this)
theorem R_askg {T : Tab} {n : Nat} {ops : Array Oper} {i : Nat} {os : List Oper} {trs : List (Nat × Tr)} {K : S → List (Nat × Tr) → Prop} {d : Option Tmp} {op : Op} {ty : TypeId} {pos : String} {after : Array Edge} {g : Nat} {want : Bool} {t : Tmp} {b : Bool} {ts : List (Nat × AV)} {ms : List (Nat × Option Ob)} (hg : guardOf ops g = some t) (hb : look ts t = .d (.lit (.bool b)))
    (hT : b = true → runL P T n ops i (⟨d, op, ty, pos, after, some (g, want)⟩ :: os) (St ((t, .d (.lit (.bool true))) :: ts) ms) trs K)
    (hF : b = false → runL P T n ops i (⟨d, op, ty, pos, after, some (g, want)⟩ :: os) (St ((t, .d (.lit (.bool false))) :: ts) ms) trs K) : runL P T n ops i (⟨d, op, ty, pos, after, some (g, want)⟩ :: os) (St ts ms) trs K := R_ask hb hT hF
theorem sub_nil (ms : List (Nat × Option Ob)) (s : S) (h2 : ∀ p ∈ ms, s.M p.1 = p.2) (h4 : ∀ p ∈ ms, ∀ o, p.2 = some o → ∀ k ∈ o.keys, k ∈ ms.map (·.1)) : subOk [] ms s := ⟨by simp, h2, by simp, h4⟩
theorem sub_cons {t : Nat} {v : AV} {ts : List (Nat × AV)} {ms : List (Nat × Option Ob)} {s : S} (h1 : s.tm t = v) (h3 : v.keys.all (fun k => (ms.map (·.1)).contains k) = true) (h : subOk ts ms s) : subOk ((t, v) :: ts) ms s := by
  obtain ⟨a, b, c, d⟩ := h
  refine ⟨fun p hp => ?_, b, fun p hp => ?_, d⟩
  · rcases List.mem_cons.1 hp with rfl | hp
    · exact h1
    · exact a p hp
  · rcases List.mem_cons.1 hp with rfl | hp
    · intro k hk; simpa using List.all_eq_true.1 h3 k hk
    · exact c p hp
def mOk (M : Mm) : List (Nat × Option Ob) → Prop
  | [] => True
  | p :: l => M p.1 = p.2 ∧ mOk M l
def obClosed (ms : List (Nat × Option Ob)) (p : Nat × Option Ob) : Bool := match p.2 with
  | some o => o.keys.all fun k => (ms.map (·.1)).contains k
  | none => true
theorem mOk_mem {M : Mm} : ∀ {ms : List (Nat × Option Ob)}, mOk M ms → ∀ p ∈ ms, M p.1 = p.2
  | [], _, p, hp => by cases hp
  | q :: l, h, p, hp => by
    rcases List.mem_cons.1 hp with rfl | hp
    · exact h.1
    · exact mOk_mem h.2 p hp
theorem sub_nil' {ms : List (Nat × Option Ob)} {s : S} (h2 : mOk s.M ms) (h4 : ms.all (obClosed ms) = true) : subOk [] ms s := by
  refine sub_nil ms s (mOk_mem h2) fun p hp o ho k hk => ?_
  have := List.all_eq_true.1 h4 p hp
  unfold obClosed at this
  rw [ho] at this
  simpa using List.all_eq_true.1 this k hk
theorem mOk_nil (M : Mm) : mOk M [] := trivial
theorem mOk_cons {M : Mm} {k : Nat} {o : Option Ob} {l : List (Nat × Option Ob)} (h : M k = o) (h2 : mOk M l) : mOk M ((k, o) :: l) := ⟨h, h2⟩
theorem sub_nil0 (s : S) : subOk [] [] s := ⟨by simp, by simp, by simp, by simp⟩
theorem finQ_g {T : Tab} {rs : List RV} {n : Nat} {r : AV} {Ms' OW : List Ob} {s' : S} (hg : G cx s s') (h : finQ T cx rs n r Ms' OW .ret s') : finQ T cx rs n r Ms' OW .ret s := by
  obtain ⟨s1, os, h1, h2⟩ := h
  exact ⟨s1, os, hg.trans h1, h2⟩
theorem finQ_n {T : Tab} {rs : List RV} {n : Nat} {r : AV} {Ms' OW : List Ob} (h : finQ T cx rs n r Ms' OW .ret s) : finQ T cx rs n r Ms' OW .normal s := h
theorem ret_d {T : Tab} {t : Nat} {ts : List (Nat × AV)} {ms : List (Nat × Option Ob)} {x y : D} (hl : look ts t = .d x) (h : x = y) : finQ T cx [.tmp t] 0 (.d y) [] [] .ret (St ts ms) :=
  ⟨_, [], G.refl _ _, fin0 (by rw [← h]; exact hl) rfl (.inl rfl) rfl rfl⟩
theorem ret_full {T : Tab} {t : Nat} {ts : List (Nat × AV)} {ms : List (Nat × Option Ob)} {es : List (List D)} {y : D} (hl : look ts t = .full es) (h : D.sl es = y) : finQ T cx [.tmp t] 0 (.d y) [] [] .ret (St ts ms) := by
  subst h
  have g : G cx (St ts ms) (St [(t, .d (.sl es))] []) := by
    refine G.trans (G_sub [(t, .full es)] [] (sub_cons hl rfl (sub_nil0 _))) ?_
    rintro a w ⟨St0, bl, hs⟩
    refine ⟨St0, bl, hs.mem, hs.frm, fun t' => ?_, hs.n, hs.df⟩
    have h0 := hs.tm t'
    simp only [St_tm, look_cons, look_nil] at h0 ⊢
    split
    · rename_i e; rw [if_pos e] at h0; exact h0.1
    · trivial
  exact finQ_g g (ret_d (by simp [look]) rfl)
theorem ret_dM {T : Tab} {t n : Nat} {Ms' : List Ob} {ts : List (Nat × AV)} {ms : List (Nat × Option Ob)} {x y : D} (hl : look ts t = .d x) (h : x = y)
    (hm : (List.range n).map (fun j => (lookM ms (1000 + j)).map (Ob.ren (fk []))) = Ms'.map some) (hk : ((List.range n).all fun j => match lookM ms (1000 + j) with | some o => o.keys.all fun k => decide (1000 ≤ k) && decide (k < 1000 + n) | none => true) = true) : finQ T cx [.tmp t] n (.d y) Ms' [] .ret (St ts ms) := by
  refine ⟨_, [], G.refl _ _, ⟨List.nodup_nil, by simp, rfl, hm, fun j hj o ho k hk' => .inr ?_, ?_, ?_, .inl rfl, rfl⟩⟩
  · have := List.all_eq_true.1 hk j (List.mem_range.2 hj)
    rw [show lookM ms (1000 + j) = some o from ho] at this
    simpa using List.all_eq_true.1 this k hk'
  · show (look ts t).ren (fk []) = _
    rw [hl, h]; rfl
  · show ∀ k ∈ (look ts t).keys, _
    rw [hl]; simp [AV.keys, AV.keys2, AV.keys1]
theorem G_frz (ts : List (Nat × AV)) (ms : List (Nat × Option Ob)) (Y : List Nat) (hY : ∀ k ∈ Y, ¬ (1000 ≤ k ∧ k < 2000)) :
    G cx (St ts ms) (St (ts.map fun p => (p.1, frzV Y (lookM ms) p.2)) (Y.map (fun k => (k, none)) ++ ms.map fun p => (p.1, p.2.map (Ob.frz Y (lookM ms))))) := by
  have := G_freeze (cx := cx) (s := St ts ms) Y hY
  have e1 : (fun t => frzV Y (St ts ms).M ((St ts ms).tm t)) = look (ts.map fun p => (p.1, frzV Y (lookM ms) p.2)) := look_map (frzV Y (lookM ms)) (by simp [frzV, scr_undef]) ts
  have e2 : frzM Y (St ts ms).M = lookM (Y.map (fun k => (k, none)) ++ ms.map fun p => (p.1, p.2.map (Ob.frz Y (lookM ms)))) := by
    funext k
    rw [lookM_append k (fun _ => none)]
    simp only [frzM, List.contains_eq_mem]
    by_cases h : k ∈ Y
    · simp [h]
    · simp only [h, decide_false, Bool.false_eq_true, if_false]
      exact congrFun (lookM_map (Ob.frz Y (lookM ms)) ms) k
  rw [e1, e2] at this
  exact this
theorem fin_own {T : Tab} {k lo len sz : Nat} {ts : List (Nat × AV)} {ms : List (Nat × Option Ob)} {es : List (List D)} {rs : List RV} {r : AV} (hres : resAV T rs (St ts ms) = r) (hm : lookM ms k = some (.row sz es)) (hk : decide (1000 ≤ k ∧ k < 2000) = false) {r' : AV} (hren : r.ren (fk [k]) = r') (hkeys : r.keys = [k])
    (hfl : rs.length = 1 ∨ ∀ x ∈ rs, notTup (x.av T (St ts ms)) = true) (hok : rs.all (RV.ok T (St ts ms)) = true) : finQ T cx rs 0 r' [] [.row sz es] .ret (St ts ms) :=
  ⟨_, [k], G.refl _ _, ⟨by simp, by simpa using hk, by rw [List.map_singleton, List.map_singleton]; exact congrArg (fun x => [x]) hm, rfl, by simp, by rw [hres, hren], by rw [hres, hkeys]; simp, hfl, hok⟩⟩
theorem ret_own {T : Tab} {t k lo len sz : Nat} {ts : List (Nat × AV)} {ms : List (Nat × Option Ob)} {es es' : List (List D)} {len' : Nat} (hl : look ts t = .ref k lo len) (hm : lookM ms k = some (.row sz es)) (hk : decide (1000 ≤ k ∧ k < 2000) = false) (hlen : len = len') (hes : es = es') : finQ T cx [.tmp t] 0 (.ref 2000 lo len') [] [.row sz es'] .ret (St ts ms) := by
  subst hes hlen
  refine fin_own (T := T) (rs := [.tmp t]) (r := .ref k lo len) (lo := lo) (len := len) hl hm hk ?_ rfl (.inl rfl) rfl
  have : ¬ (1000 ≤ k ∧ k < 2000) := by simpa using hk
  simp [AV.ren, AV.ren2, AV.ren1, fk, this]
theorem ret_nil {T : Tab} {t : Nat} (sz : Nat) {ts : List (Nat × AV)} {ms : List (Nat × Option Ob)} (hl : look ts t = .full []) : finQ T cx [.tmp t] 0 (.ref 2000 0 0) [] [.row sz []] .ret (St ts ms) := by
  have g : G cx (St ts ms) (St [(t, .ref 0 0 0), (t, .full [])] [(0, some (.row sz []))]) :=
    (G_sub [(t, .full [])] [] (sub_cons hl rfl (sub_nil0 _))).trans (G_adopt t 0 sz (by simp [look]) rfl (.inr (by omega)))
  exact finQ_g g (ret_own (k := 0) (by simp [look]) rfl rfl rfl rfl)
theorem ret_own2 {T : Tab} {t u k lo len sz : Nat} {ts : List (Nat × AV)} {ms : List (Nat × Option Ob)} {es es' : List (List D)} {len' : Nat} {x y : D} (hl : look ts t = .ref k lo len) (hl2 : look ts u = .d x) (hm : lookM ms k = some (.row sz es)) (hk : decide (1000 ≤ k ∧ k < 2000) = false) (hlen : len = len') (hes : es = es') (hx : x = y) : finQ T cx [.tmp t, .tmp u] 0 (.tup [.ref 2000 lo len', .d y]) [] [.row sz es'] .ret (St ts ms) := by
  subst hes hlen hx
  have hr : resAV T [.tmp t, .tmp u] (St ts ms) = .tup [.ref k lo len, .d x] := by
    simp only [resAV, List.map_cons, List.map_nil, RV.av, St_tm, hl, hl2]
  refine fin_own (k := k) (lo := lo) (len := len) hr hm hk ?_ rfl (.inr fun x hx => ?_) rfl
  · have : ¬ (1000 ≤ k ∧ k < 2000) := by simpa using hk
    simp [AV.ren, AV.ren2, AV.ren1, fk, this]
  · rcases List.mem_cons.1 hx with rfl | hx
    · simp only [RV.av, St_tm, hl, notTup]
    · rw [List.mem_singleton.1 hx]; simp only [RV.av, St_tm, hl2, notTup]
theorem ret_nil2 {T : Tab} {t u : Nat} (sz : Nat) {ts : List (Nat × AV)} {ms : List (Nat × Option Ob)} {x y : D} (hne : Nat.beq t u = false) (hl : look ts t = .full []) (hl2 : look ts u = .d x) (hx : x = y) : finQ T cx [.tmp t, .tmp u] 0 (.tup [.ref 2000 0 0, .d y]) [] [.row sz []] .ret (St ts ms) := by
  have hne' : ¬ u = t := by intro e; subst e; simp at hne
  have g : G cx (St ts ms) (St [(t, .ref 0 0 0), (t, .full []), (u, .d x)] [(0, some (.row sz []))]) :=
    (G_sub [(t, .full []), (u, .d x)] [] (sub_cons hl rfl (sub_cons hl2 rfl (sub_nil0 _)))).trans (G_adopt t 0 sz (by simp [look]) rfl (.inr (by omega)))
  exact finQ_g g (ret_own2 (k := 0) (by simp [look]) (by simp [look, hne']) rfl rfl rfl rfl hx)
theorem ret_ref {T : Tab} {t k lo len sz : Nat} {ts : List (Nat × AV)} {ms : List (Nat × Option Ob)} {es : List (List D)} {y : D} (hl : look ts t = .ref k lo len) (hm : lookM ms k = some (.row sz es)) (hk : decide (1000 ≤ k ∧ k < 2000) = false) (h : D.sl ((es.drop lo).take len) = y) : finQ T cx [.tmp t] 0 (.d y) [] [] .ret (St ts ms) := by
  subst h
  have g1 : G cx (St ts ms) (St [(t, .ref k lo len)] [(k, some (.row sz es))]) := G_sub _ _ ⟨fun p hp => by rw [List.mem_singleton.1 hp]; exact hl, fun p hp => by rw [List.mem_singleton.1 hp]; exact hm, by simp [AV.keys, AV.keys2, AV.keys1], by simp [Ob.keys]⟩
  refine finQ_g (g1.trans (G_frz _ _ [k] (by simpa using hk))) (ret_d (x := .sl ((es.drop lo).take len)) ?_ rfl)
  simp [look, lookM, frzV]
end
end Go.Pw

namespace Go.Pw
open Go Go.Proofs
abbrev dInt (a : Int) : AV := .d (.lit (.int .i64 a))
abbrev dBool (b : Bool) : AV := .d (.lit (.bool b))
abbrev dStr (b : ByteArray) : AV := .d (.lit (.string b))
abbrev DI (a : Int) : D := .lit (.int .i64 a)
abbrev DB (b : Bool) : D := .lit (.bool b)
abbrev DS (b : ByteArray) : D := .lit (.string b)
def I64 (n : Int) : Prop := -9223372036854775808 ≤ n ∧ n < 9223372036854775808
theorem wrap_i64 {n : Int} (h1 : -9223372036854775808 ≤ n) (h2 : n < 9223372036854775808) : IntKind.i64.wrap n = n := by
  rw [IntKind.wrap_i64]; omega
theorem getD_map_of {α : Type} {l : List α} {i : Nat} {x : α} (hx : l[i]? = some x) (f : α → List D) : (l.map f).getD i [] = f x := by
  simp [List.getD_eq_getElem?_getD, hx]
def strs (l : List ByteArray) : List (List D) := l.map fun s => [DS s]
def ints (l : List Int) : List (List D) := l.map fun s => [DI s]
theorem strs_len (l : List ByteArray) : (strs l).length = l.length := by simp [strs]
theorem ints_len (l : List Int) : (ints l).length = l.length := by simp [ints]
theorem strs_get {l : List ByteArray} {i : Nat} {x : ByteArray} (hx : l[i]? = some x) : (strs l).getD i [] = [DS x] := getD_map_of hx _
theorem ints_get {l : List Int} {i : Nat} {x : Int} (hx : l[i]? = some x) : (ints l).getD i [] = [DI x] := getD_map_of hx _
end Go.Pw

namespace Go.Pw
open Go Go.Proofs
theorem drop_some {α : Type} {l : List α} {i : Nat} {x : α} (hx : l[i]? = some x) : l.drop i = x :: l.drop (i + 1) := by
  obtain ⟨h, e⟩ := List.getElem?_eq_some_iff.1 hx
  rw [List.drop_eq_getElem_cons h, e]
theorem drop_none {α : Type} {l : List α} {i : Nat} (h : ¬ i < l.length) : l.drop i = [] := List.drop_eq_nil_of_le (by omega)
theorem get_ex {α : Type} {l : List α} {i : Nat} (h : i < l.length) : ∃ x, l[i]? = some x := ⟨_, List.getElem?_eq_getElem h⟩
def idx {α : Type} (p : α → Bool) : Int → List α → Int
  | _, [] => -1
  | i, x :: l => if p x then i else idx p (i + 1) l
abbrev Sm {α : Type} (l : List α) : Prop := l.length ≤ 1099511627776
def slA (b : Bool) (es : List (List D)) : AV := if b then .bo es else .d (.sl es)
theorem slA_t (es : List (List D)) : slA true es = .bo es := rfl
theorem slA_f (es : List (List D)) : slA false es = .d (.sl es) := rfl
theorem slA_keys (b : Bool) (es : List (List D)) : (slA b es).keys = [] := by cases b <;> rfl
theorem bool2 (b : Bool) : b = true ∨ b = false := by cases b <;> simp
end Go.Pw

namespace Go.Pw
open Go Go.Proofs
structure Ins where
  op : Int
  a : Int
  b : Int
  c : Int
  args : List Int
structure Fn where
  name : ByteArray
  params : Int
  holds : Int
  regs : Int
  ins : List Ins
structure Actr where
  name : ByteArray
  states : Int
  fn : Int
  top : Bool
structure Impl where
  name : ByteArray
  for_ : ByteArray
  fn : Int
structure Maker where
  name : ByteArray
  data : ByteArray
  args : Int
inductive Pat where
  | mk (kind num : Int) (text : ByteArray) (args : List Pat)
structure Cod where
  texts : List ByteArray
  nums : List Int
  funs : List Fn
  actors : List Actr
  impls : List Impl
  makers : List Maker
  pats : List (List Pat)
structure Hint where
  fn : Int
  pc : Int
  tag : ByteArray
structure Arm where
  pc : Int
  regs : List Int
def Ins.row (i : Ins) : List D := [DI i.op, DI i.a, DI i.b, DI i.c, .sl (ints i.args)]
def inss (l : List Ins) : List (List D) := l.map Ins.row
def Fn.row (f : Fn) : List D := [DS f.name, DI f.params, DI f.holds, DI f.regs, .sl (inss f.ins)]
def fns (l : List Fn) : List (List D) := l.map Fn.row
def Actr.row (f : Actr) : List D := [DS f.name, DI f.states, DI f.fn, DB f.top]
def actrs (l : List Actr) : List (List D) := l.map Actr.row
def Impl.row (f : Impl) : List D := [DS f.name, DS f.for_, DI f.fn]
def implsD (l : List Impl) : List (List D) := l.map Impl.row
def Maker.row (f : Maker) : List D := [DS f.name, DS f.data, DI f.args]
def makersD (l : List Maker) : List (List D) := l.map Maker.row
def Hint.row (f : Hint) : List D := [DI f.fn, DI f.pc, DS f.tag]
def hintsD (l : List Hint) : List (List D) := l.map Hint.row
def Arm.row (f : Arm) : List D := [DI f.pc, .sl (ints f.regs)]
def armsD (l : List Arm) : List (List D) := l.map Arm.row
mutual
def Pat.row : Pat → List D
  | .mk k n t l => [DI k, DI n, DS t, .sl (patsD l)]
def patsD : List Pat → List (List D)
  | [] => []
  | p :: l => p.row :: patsD l
end
def patss (l : List (List Pat)) : List (List D) := l.map fun p => [.sl (patsD p)]
def Pat.kind : Pat → Int | .mk k _ _ _ => k
def Pat.num : Pat → Int | .mk _ n _ _ => n
def Pat.text : Pat → ByteArray | .mk _ _ t _ => t
def Pat.args : Pat → List Pat | .mk _ _ _ l => l
theorem Pat.row_eq (p : Pat) : p.row = [DI p.kind, DI p.num, DS p.text, .sl (patsD p.args)] := by cases p; rw [Pat.row]; rfl
theorem patsD_map : ∀ l : List Pat, patsD l = l.map Pat.row
  | [] => by rw [patsD]; rfl
  | p :: l => by rw [patsD, patsD_map l]; rfl
abbrev avs (ds : List D) : AV := .agg (ds.map .d)
abbrev Ins.av (i : Ins) : AV := .agg [dInt i.op, dInt i.a, dInt i.b, dInt i.c, .d (.sl (ints i.args))]
abbrev Fn.av (f : Fn) : AV := .agg [dStr f.name, dInt f.params, dInt f.holds, dInt f.regs, .d (.sl (inss f.ins))]
abbrev Impl.av (f : Impl) : AV := .agg [dStr f.name, dStr f.for_, dInt f.fn]
abbrev Hint.av (f : Hint) : AV := .agg [dInt f.fn, dInt f.pc, dStr f.tag]
abbrev Pat.av (p : Pat) : AV := .agg [dInt p.kind, dInt p.num, dStr p.text, .d (.sl (patsD p.args))]
abbrev Cod.cells (c : Cod) : List AV := [.d (.sl (strs c.texts)), .d (.sl (ints c.nums)), .d (.sl (fns c.funs)), .d (.sl (actrs c.actors)), .d (.sl (implsD c.impls)), .d (.sl (makersD c.makers)), .d (.sl (patss c.pats))]
abbrev Cod.av (c : Cod) : AV := .agg c.cells
theorem inss_len (l : List Ins) : (inss l).length = l.length := by simp [inss]
theorem fns_len (l : List Fn) : (fns l).length = l.length := by simp [fns]
theorem actrs_len (l : List Actr) : (actrs l).length = l.length := by simp [actrs]
theorem implsD_len (l : List Impl) : (implsD l).length = l.length := by simp [implsD]
theorem makersD_len (l : List Maker) : (makersD l).length = l.length := by simp [makersD]
theorem hintsD_len (l : List Hint) : (hintsD l).length = l.length := by simp [hintsD]
theorem armsD_len (l : List Arm) : (armsD l).length = l.length := by simp [armsD]
theorem patsD_len (l : List Pat) : (patsD l).length = l.length := by simp [patsD_map]
theorem patss_len (l : List (List Pat)) : (patss l).length = l.length := by simp [patss]
theorem inss_get {l : List Ins} {i : Nat} {x : Ins} (hx : l[i]? = some x) : (inss l).getD i [] = [DI x.op, DI x.a, DI x.b, DI x.c, .sl (ints x.args)] := getD_map_of hx _
theorem fns_get {l : List Fn} {i : Nat} {x : Fn} (hx : l[i]? = some x) : (fns l).getD i [] = [DS x.name, DI x.params, DI x.holds, DI x.regs, .sl (inss x.ins)] := getD_map_of hx _
theorem actrs_get {l : List Actr} {i : Nat} {x : Actr} (hx : l[i]? = some x) : (actrs l).getD i [] = [DS x.name, DI x.states, DI x.fn, DB x.top] := getD_map_of hx _
theorem implsD_get {l : List Impl} {i : Nat} {x : Impl} (hx : l[i]? = some x) : (implsD l).getD i [] = [DS x.name, DS x.for_, DI x.fn] := getD_map_of hx _
theorem makersD_get {l : List Maker} {i : Nat} {x : Maker} (hx : l[i]? = some x) : (makersD l).getD i [] = [DS x.name, DS x.data, DI x.args] := getD_map_of hx _
theorem hintsD_get {l : List Hint} {i : Nat} {x : Hint} (hx : l[i]? = some x) : (hintsD l).getD i [] = [DI x.fn, DI x.pc, DS x.tag] := getD_map_of hx _
theorem armsD_get {l : List Arm} {i : Nat} {x : Arm} (hx : l[i]? = some x) : (armsD l).getD i [] = [DI x.pc, .sl (ints x.regs)] := getD_map_of hx _
theorem patsD_get {l : List Pat} {i : Nat} {x : Pat} (hx : l[i]? = some x) : (patsD l).getD i [] = [DI x.kind, DI x.num, DS x.text, .sl (patsD x.args)] := by
  rw [patsD_map, getD_map_of hx, Pat.row_eq]
theorem patss_get {l : List (List Pat)} {i : Nat} {x : List Pat} (hx : l[i]? = some x) : (patss l).getD i [] = [.sl (patsD x)] := getD_map_of hx _
theorem ints_rows (l : List Int) : ∀ e ∈ ints l, e.length = 1 := by simp [ints]
theorem strs_rows (l : List ByteArray) : ∀ e ∈ strs l, e.length = 1 := by simp [strs]
theorem inss_rows (l : List Ins) : ∀ e ∈ inss l, e.length = 5 := by simp [inss, Ins.row]
theorem fns_rows (l : List Fn) : ∀ e ∈ fns l, e.length = 5 := by simp [fns, Fn.row]
theorem implsD_rows (l : List Impl) : ∀ e ∈ implsD l, e.length = 3 := by simp [implsD, Impl.row]
theorem hintsD_rows (l : List Hint) : ∀ e ∈ hintsD l, e.length = 3 := by simp [hintsD, Hint.row]
theorem armsD_rows (l : List Arm) : ∀ e ∈ armsD l, e.length = 2 := by simp [armsD, Arm.row]
theorem patsD_rows (l : List Pat) : ∀ e ∈ patsD l, e.length = 4 := by simp [patsD_map, Pat.row_eq]
theorem patss_rows (l : List (List Pat)) : ∀ e ∈ patss l, e.length = 1 := by simp [patss]
end Go.Pw

namespace Go.Pw
open Go Go.Proofs
theorem mapM_toL {α β : Type} {m : Type → Type} [Monad m] (f : α → m β) (l : List α) : List.mapM f (List.toArray l).toList = List.mapM f l := by rw [List.toList_toArray]
theorem callArgs_eq (s : S) (ks : List Nat) (cl : Callee) (l : List Operand) (ts : Array TypeId) (caps : List (Nat × Nat × Nat)) : callArgs s ks ⟨cl, l.toArray, ts⟩ caps = (l.map fun x => toArg s ks (eval s x)) ++ caps.map fun c => toArg s ks (.ptr c.1 c.2.1 c.2.2) := rfl
theorem E : True := trivial
theorem Y : True := trivial
theorem cu {p : Prop} (h : p := by first | ((simp (maxSteps := 1000000) (disch := omega) only [St_tm, St_M, look_nil, look_cons, lookM_nil, lookM_cons, eval, avOf, scal, Nat.reduceEqDiff, Nat.reduceAdd, Nat.reduceMul, Nat.reduceSub, ↓reduceIte, reduceCtorEq, AV.keys, AV.keys2, AV.keys1, ↓flatMap_toL, ↓List.flatMap_nil, ↓List.flatMap_cons, List.append_nil, List.nil_append, List.cons_append, Ob.scr, scr, List.contains_cons, List.contains_nil, Nat.reduceBEq, Bool.false_or, Bool.true_or, not_false_eq_true, and_true, true_and, and_self, out, pureO, binD, binBool, eqCells, cellOf, scalEq, eqO, keyDesc, pickAV, cond_true, cond_false, ne_eq, not_true_eq_false, ↓map_toL, ↓List.map_cons, ↓List.map_nil, AV.cells, AV.isU, ofCells, List.any_cons, List.any_nil, Bool.or_false, Bool.or_true, Bool.or_self, List.drop_zero, List.drop_succ_cons, List.take_succ_cons, List.take_zero, List.take_nil, Ds.agg, loadO, storeO, fieldAddrO, indexAddrO, lenO, sliceO, appendO, bound, intOf?, elemsOf, capOf, fillA, splice, frz, frz1, chunks, upd_lookM, scrM_lookM, dropM_lookM, Option.map_some, Option.map_none, List.getElem?_cons_zero, List.getElem?_cons_succ, List.length_cons, List.length_nil, Nat.zero_add, Nat.add_zero, Bool.false_eq_true, ↓mapM_toL, ↓List.mapM_cons, ↓List.mapM_nil, Option.pure_def, Option.bind_eq_bind, Option.bind_some, List.flatten_cons, List.flatten_nil, List.replicate, decide_true, decide_false, Int.reduceLT, Int.reduceNeg, Int.reduceToNat, wrap_i64, Int.toNat_natCast, ints_len, strs_len, inss_len, fns_len, actrs_len, implsD_len, makersD_len, hintsD_len, armsD_len, patsD_len, patss_len, Nat.zero_add, slA_t, slA_f, List.take_nil, List.drop_nil, Bool.and_self, Bool.and_false, Bool.false_and, Bool.not_true, Bool.not_false, cond_true, cond_false, List.length_cons, List.length_nil, Int.natCast_zero, Y, E]; rfl))) : p := h
theorem ce {p : Prop} (h : p := by first | rfl | ((simp (disch := omega) only [St_tm, St_M, look_nil, look_cons, lookM_nil, lookM_cons, eval, avOf, scal, Nat.reduceEqDiff, Nat.reduceAdd, Nat.reduceMul, Nat.reduceSub, ↓reduceIte, reduceCtorEq, AV.keys, AV.keys2, AV.keys1, ↓flatMap_toL, ↓List.flatMap_nil, ↓List.flatMap_cons, List.append_nil, List.nil_append, List.cons_append, decide_true, decide_false, Int.reduceLT, Int.reduceNeg, Int.reduceToNat, wrap_i64, Int.toNat_natCast, ints_len, strs_len, inss_len, fns_len, actrs_len, implsD_len, makersD_len, hintsD_len, armsD_len, patsD_len, patss_len, Nat.zero_add, slA_t, slA_f, List.take_nil, List.drop_nil, Bool.and_self, Bool.and_false, Bool.false_and, Bool.not_true, Bool.not_false, cond_true, cond_false, List.length_cons, List.length_nil, Int.natCast_zero, E]; rfl))) : p := h
theorem cs {p : Prop} (h : p := by first | (simp (disch := omega) only [St_tm, St_M, look_nil, look_cons, lookM_nil, lookM_cons, eval, avOf, scal, Nat.reduceEqDiff, Nat.reduceAdd, Nat.reduceMul, Nat.reduceSub, ↓reduceIte, reduceCtorEq, AV.keys, AV.keys2, AV.keys1, ↓flatMap_toL, ↓List.flatMap_nil, ↓List.flatMap_cons, List.append_nil, List.nil_append, List.cons_append, scr_listM, retL, ownL, ↓map_toL, ↓List.map_cons, ↓List.map_nil, Option.map_some, Option.map_none, Ob.ren, AV.ren, AV.ren2, AV.ren1, Pw.rb, Nat.reduceLT, Nat.reduceSub, List.getD_cons_zero, List.getD_cons_succ, Ob.scr, scr, AV.keys, AV.keys2, AV.keys1, List.any_cons, List.any_nil, List.contains_cons, List.contains_nil, Nat.reduceBEq, Bool.or_false, Bool.false_or, Bool.or_true, Bool.true_or, callX, List.filter_cons, List.filter_nil, callMs, List.filterMap_cons, List.filterMap_nil, Bool.false_eq_true, List.length_cons, List.length_nil, decide_true, decide_false, Int.reduceLT, Int.reduceNeg, Int.reduceToNat, wrap_i64, Int.toNat_natCast, ints_len, strs_len, inss_len, fns_len, actrs_len, implsD_len, makersD_len, hintsD_len, armsD_len, patsD_len, patss_len, Nat.zero_add, slA_t, slA_f, List.take_nil, List.drop_nil, Bool.and_self, Bool.and_false, Bool.false_and, Bool.not_true, Bool.not_false, cond_true, cond_false, List.length_cons, List.length_nil, Int.natCast_zero, E]; rfl) | rfl | (simp (disch := omega) only [↓callArgs_eq, toArg, List.all_nil, List.all_cons, List.drop_zero, St_tm, St_M, look_nil, look_cons, lookM_nil, lookM_cons, eval, avOf, scal, Nat.reduceEqDiff, Nat.reduceAdd, Nat.reduceMul, Nat.reduceSub, ↓reduceIte, reduceCtorEq, AV.keys, AV.keys2, AV.keys1, ↓flatMap_toL, ↓List.flatMap_nil, ↓List.flatMap_cons, List.append_nil, List.nil_append, List.cons_append, scr_listM, retL, ownL, ↓map_toL, ↓List.map_cons, ↓List.map_nil, Option.map_some, Option.map_none, Ob.ren, AV.ren, AV.ren2, AV.ren1, Pw.rb, Nat.reduceLT, Nat.reduceSub, List.getD_cons_zero, List.getD_cons_succ, Ob.scr, scr, AV.keys, AV.keys2, AV.keys1, List.any_cons, List.any_nil, List.contains_cons, List.contains_nil, Nat.reduceBEq, Bool.or_false, Bool.false_or, Bool.or_true, Bool.true_or, callX, List.filter_cons, List.filter_nil, callMs, List.filterMap_cons, List.filterMap_nil, Bool.false_eq_true, List.length_cons, List.length_nil, decide_true, decide_false, Int.reduceLT, Int.reduceNeg, Int.reduceToNat, wrap_i64, Int.toNat_natCast, ints_len, strs_len, inss_len, fns_len, actrs_len, implsD_len, makersD_len, hintsD_len, armsD_len, patsD_len, patss_len, Nat.zero_add, slA_t, slA_f, List.take_nil, List.drop_nil, Bool.and_self, Bool.and_false, Bool.false_and, Bool.not_true, Bool.not_false, cond_true, cond_false, List.length_cons, List.length_nil, Int.natCast_zero, E]; done) | (simp (disch := omega) only [↓callArgs_eq, toArg, List.all_nil, List.all_cons, List.drop_zero, St_tm, St_M, look_nil, look_cons, lookM_nil, lookM_cons, eval, avOf, scal, Nat.reduceEqDiff, Nat.reduceAdd, Nat.reduceMul, Nat.reduceSub, ↓reduceIte, reduceCtorEq, AV.keys, AV.keys2, AV.keys1, ↓flatMap_toL, ↓List.flatMap_nil, ↓List.flatMap_cons, List.append_nil, List.nil_append, List.cons_append, scr_listM, retL, ownL, ↓map_toL, ↓List.map_cons, ↓List.map_nil, Option.map_some, Option.map_none, Ob.ren, AV.ren, AV.ren2, AV.ren1, Pw.rb, Nat.reduceLT, Nat.reduceSub, List.getD_cons_zero, List.getD_cons_succ, Ob.scr, scr, AV.keys, AV.keys2, AV.keys1, List.any_cons, List.any_nil, List.contains_cons, List.contains_nil, Nat.reduceBEq, Bool.or_false, Bool.false_or, Bool.or_true, Bool.true_or, callX, List.filter_cons, List.filter_nil, callMs, List.filterMap_cons, List.filterMap_nil, Bool.false_eq_true, List.length_cons, List.length_nil, decide_true, decide_false, Int.reduceLT, Int.reduceNeg, Int.reduceToNat, wrap_i64, Int.toNat_natCast, ints_len, strs_len, inss_len, fns_len, actrs_len, implsD_len, makersD_len, hintsD_len, armsD_len, patsD_len, patss_len, Nat.zero_add, slA_t, slA_f, List.take_nil, List.drop_nil, Bool.and_self, Bool.and_false, Bool.false_and, Bool.not_true, Bool.not_false, cond_true, cond_false, List.length_cons, List.length_nil, Int.natCast_zero, E]; rfl)) : p := h
theorem cm {p : Prop} (h : p := by first | rfl | (simp (disch := omega) only [St_tm, St_M, look_nil, look_cons, lookM_nil, lookM_cons, eval, avOf, scal, Nat.reduceEqDiff, Nat.reduceAdd, Nat.reduceMul, Nat.reduceSub, ↓reduceIte, reduceCtorEq, AV.keys, AV.keys2, AV.keys1, ↓flatMap_toL, ↓List.flatMap_nil, ↓List.flatMap_cons, List.append_nil, List.nil_append, List.cons_append, scr_listM, retL, ownL, ↓map_toL, ↓List.map_cons, ↓List.map_nil, Option.map_some, Option.map_none, Ob.ren, AV.ren, AV.ren2, AV.ren1, Pw.rb, Nat.reduceLT, Nat.reduceSub, List.getD_cons_zero, List.getD_cons_succ, Ob.scr, scr, AV.keys, AV.keys2, AV.keys1, List.any_cons, List.any_nil, List.contains_cons, List.contains_nil, Nat.reduceBEq, Bool.or_false, Bool.false_or, Bool.or_true, Bool.true_or, callX, List.filter_cons, List.filter_nil, callMs, List.filterMap_cons, List.filterMap_nil, Bool.false_eq_true, List.length_cons, List.length_nil, decide_true, decide_false, Int.reduceLT, Int.reduceNeg, Int.reduceToNat, wrap_i64, Int.toNat_natCast, ints_len, strs_len, inss_len, fns_len, actrs_len, implsD_len, makersD_len, hintsD_len, armsD_len, patsD_len, patss_len, Nat.zero_add, slA_t, slA_f, List.take_nil, List.drop_nil, Bool.and_self, Bool.and_false, Bool.false_and, Bool.not_true, Bool.not_false, cond_true, cond_false, List.length_cons, List.length_nil, Int.natCast_zero, E]; done) | (simp (disch := omega) only [St_tm, St_M, look_nil, look_cons, lookM_nil, lookM_cons, eval, avOf, scal, Nat.reduceEqDiff, Nat.reduceAdd, Nat.reduceMul, Nat.reduceSub, ↓reduceIte, reduceCtorEq, AV.keys, AV.keys2, AV.keys1, ↓flatMap_toL, ↓List.flatMap_nil, ↓List.flatMap_cons, List.append_nil, List.nil_append, List.cons_append, scr_listM, retL, ownL, ↓map_toL, ↓List.map_cons, ↓List.map_nil, Option.map_some, Option.map_none, Ob.ren, AV.ren, AV.ren2, AV.ren1, Pw.rb, Nat.reduceLT, Nat.reduceSub, List.getD_cons_zero, List.getD_cons_succ, Ob.scr, scr, AV.keys, AV.keys2, AV.keys1, List.any_cons, List.any_nil, List.contains_cons, List.contains_nil, Nat.reduceBEq, Bool.or_false, Bool.false_or, Bool.or_true, Bool.true_or, callX, List.filter_cons, List.filter_nil, callMs, List.filterMap_cons, List.filterMap_nil, Bool.false_eq_true, List.length_cons, List.length_nil, decide_true, decide_false, Int.reduceLT, Int.reduceNeg, Int.reduceToNat, wrap_i64, Int.toNat_natCast, ints_len, strs_len, inss_len, fns_len, actrs_len, implsD_len, makersD_len, hintsD_len, armsD_len, patsD_len, patss_len, Nat.zero_add, slA_t, slA_f, List.take_nil, List.drop_nil, Bool.and_self, Bool.and_false, Bool.false_and, Bool.not_true, Bool.not_false, cond_true, cond_false, List.length_cons, List.length_nil, Int.natCast_zero, E]; rfl)) : p := h
theorem cr {p : Prop} (h : p := by rfl) : p := h
theorem ct {p : Prop} (h : p := by (simp only [trOf, opKeys_eq, opnds, Option.toList, ↓List.cons_append, ↓List.nil_append, obKeys, Ob.keys, ownKeys, ↓flatMap_toL, ↓List.flatMap_cons, ↓List.flatMap_nil, Array.toList_append, List.range_zero, List.length_nil, ↓map_toL, ↓List.map_nil, ↓List.map_cons, St_tm, St_M, look_nil, look_cons, lookM_nil, lookM_cons, eval, avOf, scal, Nat.reduceEqDiff, Nat.reduceAdd, Nat.reduceMul, Nat.reduceSub, ↓reduceIte, reduceCtorEq, AV.keys, AV.keys2, AV.keys1, ↓flatMap_toL, ↓List.flatMap_nil, ↓List.flatMap_cons, List.append_nil, List.nil_append, List.cons_append, decide_true, decide_false, Int.reduceLT, Int.reduceNeg, Int.reduceToNat, wrap_i64, Int.toNat_natCast, ints_len, strs_len, inss_len, fns_len, actrs_len, implsD_len, makersD_len, hintsD_len, armsD_len, patsD_len, patss_len, Nat.zero_add, slA_t, slA_f, List.take_nil, List.drop_nil, Bool.and_self, Bool.and_false, Bool.false_and, Bool.not_true, Bool.not_false, cond_true, cond_false, List.length_cons, List.length_nil, Int.natCast_zero, E]; rfl)) : p := h
theorem cj {p : Prop} (h : p := by simp only [Nat.reduceAdd]; rfl) : p := h
theorem co {p : Prop} (h : p := by
  first
    | exact trivial | assumption | omega
    | (simp (maxSteps := 1000000) (disch := omega) only [St_tm, St_M, look_nil, look_cons, lookM_nil, lookM_cons, eval, avOf, scal, Nat.reduceEqDiff, Nat.reduceAdd, Nat.reduceMul, Nat.reduceSub, ↓reduceIte, reduceCtorEq, AV.keys, AV.keys2, AV.keys1, ↓flatMap_toL, ↓List.flatMap_nil, ↓List.flatMap_cons, List.append_nil, List.nil_append, List.cons_append, Ob.scr, scr, List.contains_cons, List.contains_nil, Nat.reduceBEq, Bool.false_or, Bool.true_or, not_false_eq_true, and_true, true_and, and_self, out, pureO, binD, binBool, eqCells, cellOf, scalEq, eqO, keyDesc, pickAV, cond_true, cond_false, ne_eq, not_true_eq_false, ↓map_toL, ↓List.map_cons, ↓List.map_nil, AV.cells, AV.isU, ofCells, List.any_cons, List.any_nil, Bool.or_false, Bool.or_true, Bool.or_self, List.drop_zero, List.drop_succ_cons, List.take_succ_cons, List.take_zero, List.take_nil, Ds.agg, loadO, storeO, fieldAddrO, indexAddrO, lenO, sliceO, appendO, bound, intOf?, elemsOf, capOf, fillA, splice, frz, frz1, chunks, upd_lookM, scrM_lookM, dropM_lookM, Option.map_some, Option.map_none, List.getElem?_cons_zero, List.getElem?_cons_succ, List.length_cons, List.length_nil, Nat.zero_add, Nat.add_zero, Bool.false_eq_true, ↓mapM_toL, ↓List.mapM_cons, ↓List.mapM_nil, Option.pure_def, Option.bind_eq_bind, Option.bind_some, List.flatten_cons, List.flatten_nil, List.replicate, decide_true, decide_false, Int.reduceLT, Int.reduceNeg, Int.reduceToNat, wrap_i64, Int.toNat_natCast, ints_len, strs_len, inss_len, fns_len, actrs_len, implsD_len, makersD_len, hintsD_len, armsD_len, patsD_len, patss_len, Nat.zero_add, slA_t, slA_f, List.take_nil, List.drop_nil, Bool.and_self, Bool.and_false, Bool.false_and, Bool.not_true, Bool.not_false, cond_true, cond_false, List.length_cons, List.length_nil, Int.natCast_zero, Y, E]; done)
    | (simp (maxSteps := 1000000) (disch := omega) only [St_tm, St_M, look_nil, look_cons, lookM_nil, lookM_cons, eval, avOf, scal, Nat.reduceEqDiff, Nat.reduceAdd, Nat.reduceMul, Nat.reduceSub, ↓reduceIte, reduceCtorEq, AV.keys, AV.keys2, AV.keys1, ↓flatMap_toL, ↓List.flatMap_nil, ↓List.flatMap_cons, List.append_nil, List.nil_append, List.cons_append, Ob.scr, scr, List.contains_cons, List.contains_nil, Nat.reduceBEq, Bool.false_or, Bool.true_or, not_false_eq_true, and_true, true_and, and_self, out, pureO, binD, binBool, eqCells, cellOf, scalEq, eqO, keyDesc, pickAV, cond_true, cond_false, ne_eq, not_true_eq_false, ↓map_toL, ↓List.map_cons, ↓List.map_nil, AV.cells, AV.isU, ofCells, List.any_cons, List.any_nil, Bool.or_false, Bool.or_true, Bool.or_self, List.drop_zero, List.drop_succ_cons, List.take_succ_cons, List.take_zero, List.take_nil, Ds.agg, loadO, storeO, fieldAddrO, indexAddrO, lenO, sliceO, appendO, bound, intOf?, elemsOf, capOf, fillA, splice, frz, frz1, chunks, upd_lookM, scrM_lookM, dropM_lookM, Option.map_some, Option.map_none, List.getElem?_cons_zero, List.getElem?_cons_succ, List.length_cons, List.length_nil, Nat.zero_add, Nat.add_zero, Bool.false_eq_true, ↓mapM_toL, ↓List.mapM_cons, ↓List.mapM_nil, Option.pure_def, Option.bind_eq_bind, Option.bind_some, List.flatten_cons, List.flatten_nil, List.replicate, decide_true, decide_false, Int.reduceLT, Int.reduceNeg, Int.reduceToNat, wrap_i64, Int.toNat_natCast, ints_len, strs_len, inss_len, fns_len, actrs_len, implsD_len, makersD_len, hintsD_len, armsD_len, patsD_len, patss_len, Nat.zero_add, slA_t, slA_f, List.take_nil, List.drop_nil, Bool.and_self, Bool.and_false, Bool.false_and, Bool.not_true, Bool.not_false, cond_true, cond_false, List.length_cons, List.length_nil, Int.natCast_zero, Y, E]; omega)
    | ((try simp (maxSteps := 1000000) (disch := omega) only [St_tm, St_M, look_nil, look_cons, lookM_nil, lookM_cons, eval, avOf, scal, Nat.reduceEqDiff, Nat.reduceAdd, Nat.reduceMul, Nat.reduceSub, ↓reduceIte, reduceCtorEq, AV.keys, AV.keys2, AV.keys1, ↓flatMap_toL, ↓List.flatMap_nil, ↓List.flatMap_cons, List.append_nil, List.nil_append, List.cons_append, Ob.scr, scr, List.contains_cons, List.contains_nil, Nat.reduceBEq, Bool.false_or, Bool.true_or, not_false_eq_true, and_true, true_and, and_self, out, pureO, binD, binBool, eqCells, cellOf, scalEq, eqO, keyDesc, pickAV, cond_true, cond_false, ne_eq, not_true_eq_false, ↓map_toL, ↓List.map_cons, ↓List.map_nil, AV.cells, AV.isU, ofCells, List.any_cons, List.any_nil, Bool.or_false, Bool.or_true, Bool.or_self, List.drop_zero, List.drop_succ_cons, List.take_succ_cons, List.take_zero, List.take_nil, Ds.agg, loadO, storeO, fieldAddrO, indexAddrO, lenO, sliceO, appendO, bound, intOf?, elemsOf, capOf, fillA, splice, frz, frz1, chunks, upd_lookM, scrM_lookM, dropM_lookM, Option.map_some, Option.map_none, List.getElem?_cons_zero, List.getElem?_cons_succ, List.length_cons, List.length_nil, Nat.zero_add, Nat.add_zero, Bool.false_eq_true, ↓mapM_toL, ↓List.mapM_cons, ↓List.mapM_nil, Option.pure_def, Option.bind_eq_bind, Option.bind_some, List.flatten_cons, List.flatten_nil, List.replicate, decide_true, decide_false, Int.reduceLT, Int.reduceNeg, Int.reduceToNat, wrap_i64, Int.toNat_natCast, ints_len, strs_len, inss_len, fns_len, actrs_len, implsD_len, makersD_len, hintsD_len, armsD_len, patsD_len, patss_len, Nat.zero_add, slA_t, slA_f, List.take_nil, List.drop_nil, Bool.and_self, Bool.and_false, Bool.false_and, Bool.not_true, Bool.not_false, cond_true, cond_false, List.length_cons, List.length_nil, Int.natCast_zero, Y, E]); (repeat' apply And.intro) <;> (first | exact trivial | assumption | omega | exact ints_rows _ | exact strs_rows _ | exact inss_rows _ | exact fns_rows _ | exact implsD_rows _ | exact hintsD_rows _ | exact armsD_rows _ | exact patsD_rows _ | exact patss_rows _ | (simp only [List.length_append, List.length_cons, List.length_nil]; omega) | (simp; done)))
    | (simp only [List.length_cons, List.length_nil, Nat.reduceAdd, decide_true, decide_false, Int.reduceLT, Int.reduceNeg, Int.reduceToNat, wrap_i64, Int.toNat_natCast, ints_len, strs_len, inss_len, fns_len, actrs_len, implsD_len, makersD_len, hintsD_len, armsD_len, patsD_len, patss_len, Nat.zero_add, slA_t, slA_f, List.take_nil, List.drop_nil, Bool.and_self, Bool.and_false, Bool.false_and, Bool.not_true, Bool.not_false, cond_true, cond_false, List.length_cons, List.length_nil, Int.natCast_zero, E]; omega)) : p := h
section
variable {P : Program} {T : Tab} {n : Nat} {ops : Array Oper} {i : Nat} {os : List Oper} {trs : List (Nat × Tr)} {K : S → List (Nat × Tr) → Prop} {Q : Exit → S → Prop}
theorem tagK {d : Tmp} {f : Operand} {a : Array Operand} {t : Array TypeId} {ty : TypeId} {pos : String} {after : Array Edge} {s : S} (h : runL P T n ops i (⟨some d, .call ⟨.value f, a, t⟩, ty, pos, after, none⟩ :: os) s trs K) : runL P T n ops i (⟨some d, .call ⟨.value f, a, t⟩, ty, pos, after, none⟩ :: os) s trs K := h
theorem tagS {d : Tmp} {op : Op} {ty : TypeId} {pos : String} {after : Array Edge} {s : S} (h : runL P T n ops i (⟨some d, op, ty, pos, after, none⟩ :: os) s trs K) : runL P T n ops i (⟨some d, op, ty, pos, after, none⟩ :: os) s trs K := h
theorem tagN {op : Op} {ty : TypeId} {pos : String} {after : Array Edge} {s : S} (h : runL P T n ops i (⟨none, op, ty, pos, after, none⟩ :: os) s trs K) : runL P T n ops i (⟨none, op, ty, pos, after, none⟩ :: os) s trs K := h
theorem qg1 {d : Option Tmp} {op : Op} {ty : TypeId} {pos : String} {after : Array Edge} {g : Nat} {t : Tmp} {want : Bool} {s : S}
    (h : runL P T n ops i (⟨d, op, ty, pos, after, none⟩ :: os) s trs K) (hg : guardOf ops g = some t := by exact cr) (hb : s.tm t = .d (.lit (.bool want)) := by exact cr) : runL P T n ops i (⟨d, op, ty, pos, after, some (g, want)⟩ :: os) s trs K := R_yes hg hb h
theorem qg2 {d : Tmp} {op : Op} {ty : TypeId} {pos : String} {after : Array Edge} {g : Nat} {t : Tmp} {want : Bool} {ts : List (Nat × AV)} {ms : List (Nat × Option Ob)}
    (h : runL P T n ops (i + 1) os (St ((d, .tup []) :: ts) ms) (trs ++ [(i, ⟨[], []⟩)]) K) (hg : guardOf ops g = some t := by exact cr) (hb : look ts t = .d (.lit (.bool !want)) := by exact cr) (hd : decide (d < n) = true := by exact cr) : runL P T n ops i (⟨some d, op, ty, pos, after, some (g, want)⟩ :: os) (St ts ms) trs K := R_no hg hb hd h
theorem qg3 {op : Op} {ty : TypeId} {pos : String} {after : Array Edge} {g : Nat} {t : Tmp} {want : Bool} {ts : List (Nat × AV)} {ms : List (Nat × Option Ob)}
    (h : runL P T n ops (i + 1) os (St ts ms) (trs ++ [(i, ⟨[], []⟩)]) K) (hg : guardOf ops g = some t := by exact cr) (hb : look ts t = .d (.lit (.bool !want)) := by exact cr) : runL P T n ops i (⟨none, op, ty, pos, after, some (g, want)⟩ :: os) (St ts ms) trs K := R_no' hg hb h
theorem qg4 {d : Tmp} {op : Op} {ty : TypeId} {pos : String} {after : Array Edge} {g : Nat} {t : Tmp} {want : Bool} {ts : List (Nat × AV)} {ms : List (Nat × Option Ob)}
    (h : runL P T n ops (i + 1) os (St ((d, .tup []) :: ts) ms) (trs ++ [(i, ⟨[], []⟩)]) K) (hg : guardOf ops g = some t := by exact cr) (hb : look ts t = .tup [] := by exact cr) (hd : decide (d < n) = true := by exact cr) : runL P T n ops i (⟨some d, op, ty, pos, after, some (g, want)⟩ :: os) (St ts ms) trs K := R_nos hg hb hd h
theorem qg5 {op : Op} {ty : TypeId} {pos : String} {after : Array Edge} {g : Nat} {t : Tmp} {want : Bool} {ts : List (Nat × AV)} {ms : List (Nat × Option Ob)}
    (h : runL P T n ops (i + 1) os (St ts ms) (trs ++ [(i, ⟨[], []⟩)]) K) (hg : guardOf ops g = some t := by exact cr) (hb : look ts t = .tup [] := by exact cr) : runL P T n ops i (⟨none, op, ty, pos, after, some (g, want)⟩ :: os) (St ts ms) trs K := R_nos' hg hb h
theorem qg6 {d : Option Tmp} {op : Op} {ty : TypeId} {pos : String} {after : Array Edge} {g : Nat} {want : Bool} {t : Tmp} {b : Bool} {ts : List (Nat × AV)} {ms : List (Nat × Option Ob)}
    (hT : b = true → runL P T n ops i (⟨d, op, ty, pos, after, some (g, want)⟩ :: os) (St ((t, .d (.lit (.bool true))) :: ts) ms) trs K)
    (hF : b = false → runL P T n ops i (⟨d, op, ty, pos, after, some (g, want)⟩ :: os) (St ((t, .d (.lit (.bool false))) :: ts) ms) trs K)
    (hg : guardOf ops g = some t := by exact cr) (hb : look ts t = .d (.lit (.bool b)) := by exact ce) : runL P T n ops i (⟨d, op, ty, pos, after, some (g, want)⟩ :: os) (St ts ms) trs K := R_askg hg hb hT hF
theorem qd1 {d : Tmp} {op : Op} {ty : TypeId} {pos : String} {after : Array Edge} {ts : List (Nat × AV)} {ms ms' : List (Nat × Option Ob)} {v : AV} {W R : List Nat} {ob : Prop} {tr : Tr} {j : Nat}
    (h : runL P T n ops j os (St ((d, v) :: ts) ms') (trs ++ [(i, tr)]) (endD ops Q))
    (hu : out T (St ts ms) op d = some ⟨v, [], lookM ms', W, R, ob⟩ := by exact cu) (hd : decide (d < n) = true := by exact cr) (hp : plainOp op = true := by exact cr) (hob : ob := by exact co) (htr : trOf (St ts ms) ⟨some d, op, ty, pos, after, none⟩ v W R (lookM ms') = tr := by exact ct) (hj : i + 1 = j := by exact cj) :
    runL P T n ops i (⟨some d, op, ty, pos, after, none⟩ :: os) (St ts ms) trs (endD ops Q) := RD_op0 hu hd hp hob htr hj h
theorem qd2 {op : Op} {ty : TypeId} {pos : String} {after : Array Edge} {ts : List (Nat × AV)} {ms ms' : List (Nat × Option Ob)} {v : AV} {W R : List Nat} {ob : Prop} {tr : Tr} {j : Nat}
    (h : runL P T n ops j os (St ts ms') (trs ++ [(i, tr)]) (endD ops Q))
    (hu : out T (St ts ms) op 999 = some ⟨v, [], lookM ms', W, R, ob⟩ := by exact cu) (hp : plainOp op = true := by exact cr) (hob : ob := by exact co) (htr : trOf (St ts ms) ⟨none, op, ty, pos, after, none⟩ v W R (lookM ms') = tr := by exact ct) (hj : i + 1 = j := by exact cj) :
    runL P T n ops i (⟨none, op, ty, pos, after, none⟩ :: os) (St ts ms) trs (endD ops Q) := RD_st0 hu hp hob htr hj h
theorem qd3 {d : Tmp} {op : Op} {ty : TypeId} {pos : String} {after : Array Edge} {ts ts' : List (Nat × AV)} {ms ms' : List (Nat × Option Ob)} {v : AV} {X W R : List Nat} {ob : Prop} {tr : Tr} {j : Nat}
    (h : runL P T n ops j os (St ((d, v) :: ts') ms') (trs ++ [(i, tr)]) (endD ops Q))
    (hu : out T (St ts ms) op d = some ⟨v, X, lookM ms', W, R, ob⟩ := by exact cu) (hd : decide (d < n) = true := by exact cr) (hp : plainOp op = true := by exact cr) (hob : ob := by exact co) (hts : ts.map (fun p => (p.1, scr X p.2)) = ts' := by exact cs) (htr : trOf (St ts ms) ⟨some d, op, ty, pos, after, none⟩ v W R (lookM ms') = tr := by exact ct) (hj : i + 1 = j := by exact cj) :
    runL P T n ops i (⟨some d, op, ty, pos, after, none⟩ :: os) (St ts ms) trs (endD ops Q) := RD_opX hu hd hp hob hts htr hj h
theorem qd4 {op : Op} {ty : TypeId} {pos : String} {after : Array Edge} {ts ts' : List (Nat × AV)} {ms ms' : List (Nat × Option Ob)} {v : AV} {X W R : List Nat} {ob : Prop} {tr : Tr} {j : Nat}
    (h : runL P T n ops j os (St ts' ms') (trs ++ [(i, tr)]) (endD ops Q))
    (hu : out T (St ts ms) op 999 = some ⟨v, X, lookM ms', W, R, ob⟩ := by exact cu) (hp : plainOp op = true := by exact cr) (hob : ob := by exact co) (hts : ts.map (fun p => (p.1, scr X p.2)) = ts' := by exact cs) (htr : trOf (St ts ms) ⟨none, op, ty, pos, after, none⟩ v W R (lookM ms') = tr := by exact ct) (hj : i + 1 = j := by exact cj) :
    runL P T n ops i (⟨none, op, ty, pos, after, none⟩ :: os) (St ts ms) trs (endD ops Q) := RD_stX hu hp hob hts htr hj h
theorem qr1 {d : Tmp} {op : Op} {ty : TypeId} {pos : String} {after : Array Edge} {ts : List (Nat × AV)} {ms ms' : List (Nat × Option Ob)} {v : AV} {W R : List Nat} {ob : Prop}
    (h : runL P T n ops (i + 1) os (St ((d, v) :: ts) ms') (trs ++ [(i, trOf (St ts ms) ⟨some d, op, ty, pos, after, none⟩ v W R (lookM ms'))]) K)
    (hu : out T (St ts ms) op d = some ⟨v, [], lookM ms', W, R, ob⟩ := by exact cu) (hd : decide (d < n) = true := by exact cr) (hp : plainOp op = true := by exact cr) (hob : ob := by exact co) :
    runL P T n ops i (⟨some d, op, ty, pos, after, none⟩ :: os) (St ts ms) trs K := R_op0 hu hd hp hob h
theorem qr2 {op : Op} {ty : TypeId} {pos : String} {after : Array Edge} {ts : List (Nat × AV)} {ms ms' : List (Nat × Option Ob)} {v : AV} {W R : List Nat} {ob : Prop}
    (h : runL P T n ops (i + 1) os (St ts ms') (trs ++ [(i, trOf (St ts ms) ⟨none, op, ty, pos, after, none⟩ v W R (lookM ms'))]) K)
    (hu : out T (St ts ms) op 999 = some ⟨v, [], lookM ms', W, R, ob⟩ := by exact cu) (hp : plainOp op = true := by exact cr) (hob : ob := by exact co) :
    runL P T n ops i (⟨none, op, ty, pos, after, none⟩ :: os) (St ts ms) trs K := R_st0 hu hp hob h
theorem qr3 {d : Tmp} {op : Op} {ty : TypeId} {pos : String} {after : Array Edge} {ts ts' : List (Nat × AV)} {ms ms' : List (Nat × Option Ob)} {v : AV} {X W R : List Nat} {ob : Prop}
    (h : runL P T n ops (i + 1) os (St ((d, v) :: ts') ms') (trs ++ [(i, trOf (St ts ms) ⟨some d, op, ty, pos, after, none⟩ v W R (lookM ms'))]) K)
    (hu : out T (St ts ms) op d = some ⟨v, X, lookM ms', W, R, ob⟩ := by exact cu) (hd : decide (d < n) = true := by exact cr) (hp : plainOp op = true := by exact cr) (hob : ob := by exact co) (hts : ts.map (fun p => (p.1, scr X p.2)) = ts' := by exact cs) :
    runL P T n ops i (⟨some d, op, ty, pos, after, none⟩ :: os) (St ts ms) trs K := R_opX hu hd hp hob hts h
theorem qr4 {op : Op} {ty : TypeId} {pos : String} {after : Array Edge} {ts ts' : List (Nat × AV)} {ms ms' : List (Nat × Option Ob)} {v : AV} {X W R : List Nat} {ob : Prop}
    (h : runL P T n ops (i + 1) os (St ts' ms') (trs ++ [(i, trOf (St ts ms) ⟨none, op, ty, pos, after, none⟩ v W R (lookM ms'))]) K)
    (hu : out T (St ts ms) op 999 = some ⟨v, X, lookM ms', W, R, ob⟩ := by exact cu) (hp : plainOp op = true := by exact cr) (hob : ob := by exact co) (hts : ts.map (fun p => (p.1, scr X p.2)) = ts' := by exact cs) :
    runL P T n ops i (⟨none, op, ty, pos, after, none⟩ :: os) (St ts ms) trs K := R_stX hu hp hob hts h
theorem qd5 {d : Tmp} {c : Call} {f : Operand} {ty : TypeId} {pos : String} {after : Array Edge} {ts : List (Nat × AV)} {ms : List (Nat × Option Ob)} {fid : Nat} {args : List AV} {r : AV} {tr : Tr} {j : Nat}
    (hc : C P fid args [] r [] [])
    (h : runL P T n ops j os (St ((d, r) :: ts) ms) (trs ++ [(i, tr)]) (endD ops Q))
    (hf : c.callee = .value f := by exact cr) (he : eval (St ts ms) f = .fn fid [] := by exact ce) (hd : decide (d < n) = true := by exact cr)
    (hargs : c.args.toList.map (fun x => toArg (St ts ms) [] (eval (St ts ms) x)) = args := by exact cs) (hv : r.keys = [] := by exact cr) (hv2 : r.ren (Pw.rb [] d) = r := by exact cr) (htr : trOf (St ts ms) ⟨some d, .call c, ty, pos, after, none⟩ r [] [] (lookM ms) = tr := by exact ct) (hj : i + 1 = j := by exact cj) :
    runL P T n ops i (⟨some d, .call c, ty, pos, after, none⟩ :: os) (St ts ms) trs (endD ops Q) := RD_call0 hc hf he hd hargs hv hv2 htr hj h
theorem qr5 {d : Tmp} {c : Call} {f : Operand} {ty : TypeId} {pos : String} {after : Array Edge} {ts : List (Nat × AV)} {ms : List (Nat × Option Ob)} {fid : Nat} {args : List AV} {r : AV}
    (hc : C P fid args [] r [] [])
    (h : runL P T n ops (i + 1) os (St ((d, r) :: ts) ms) (trs ++ [(i, trOf (St ts ms) ⟨some d, .call c, ty, pos, after, none⟩ r [] [] (lookM ms))]) K)
    (hf : c.callee = .value f := by exact cr) (he : eval (St ts ms) f = .fn fid [] := by exact ce) (hd : decide (d < n) = true := by exact cr)
    (hargs : c.args.toList.map (fun x => toArg (St ts ms) [] (eval (St ts ms) x)) = args := by exact cs) (hv : r.keys = [] := by exact cr) (hv2 : r.ren (Pw.rb [] d) = r := by exact cr) :
    runL P T n ops i (⟨some d, .call c, ty, pos, after, none⟩ :: os) (St ts ms) trs K := R_call0 hc hf he hd hargs hv hv2 h
theorem qd6 {d : Tmp} {c : Call} {f : Operand} {ty : TypeId} {pos : String} {after : Array Edge} {ts : List (Nat × AV)} {ms : List (Nat × Option Ob)} {fid : Nat} {caps : List (Nat × Nat × Nat)} (ks : List Nat) {args : List AV} {r : AV} {Ms Ms' OW : List Ob} {X : List Nat} {tr : Tr} {j : Nat} {ms' : List (Nat × Option Ob)} {v : AV} {ts' : List (Nat × AV)}
    (hc : C P fid args Ms r Ms' OW)
    (h : runL P T n ops j os (St ((d, v) :: ts') ms') (trs ++ [(i, tr)]) (endD ops Q))
    (hf : c.callee = .value f := by exact cr) (he : eval (St ts ms) f = .fn fid caps := by exact ce) (hd : decide (d < n) = true := by exact cr) (hok : callB ms ks d OW.length Ms'.length = true := by exact cr)
    (hargs : callArgs (St ts ms) ks c caps = args := by exact cs) (hMs : callMs (St ts ms) ks = Ms := by exact cs) (hX : callX (St ts ms) ks = X := by exact cs) (hms : retL (Pw.rb ks d) ks Ms' ++ (ownL (Pw.rb ks d) (2000 + 8 * d) OW ++ ms.map fun p => (p.1, p.2.map (Ob.scr X))) = ms' := by exact cs) (hv : r.ren (Pw.rb ks d) = v := by exact cs) (hts : ts.map (fun p => (p.1, scr X p.2)) = ts' := by first | exact scr_list _ | exact cs)
    (htr : trOf (St ts ms) ⟨some d, .call c, ty, pos, after, none⟩ v (ks ++ ownKeys d OW) ks (lookM ms') = tr := by exact ct) (hj : i + 1 = j := by exact cj) :
    runL P T n ops i (⟨some d, .call c, ty, pos, after, none⟩ :: os) (St ts ms) trs (endD ops Q) := RD_callB ks hc hf he hd hok hargs hMs hX hms hv hts htr hj h
theorem qr6 {d : Tmp} {c : Call} {f : Operand} {ty : TypeId} {pos : String} {after : Array Edge} {ts : List (Nat × AV)} {ms : List (Nat × Option Ob)} {fid : Nat} {caps : List (Nat × Nat × Nat)} (ks : List Nat) {args : List AV} {r : AV} {Ms Ms' OW : List Ob} {X : List Nat} {ms' : List (Nat × Option Ob)} {v : AV} {ts' : List (Nat × AV)}
    (hc : C P fid args Ms r Ms' OW)
    (h : runL P T n ops (i + 1) os (St ((d, v) :: ts') ms') (trs ++ [(i, trOf (St ts ms) ⟨some d, .call c, ty, pos, after, none⟩ v (ks ++ ownKeys d OW) ks (lookM ms'))]) K)
    (hf : c.callee = .value f := by exact cr) (he : eval (St ts ms) f = .fn fid caps := by exact ce) (hd : decide (d < n) = true := by exact cr) (hok : callB ms ks d OW.length Ms'.length = true := by exact cr)
    (hargs : callArgs (St ts ms) ks c caps = args := by exact cs) (hMs : callMs (St ts ms) ks = Ms := by exact cs) (hX : callX (St ts ms) ks = X := by exact cs) (hms : retL (Pw.rb ks d) ks Ms' ++ (ownL (Pw.rb ks d) (2000 + 8 * d) OW ++ ms.map fun p => (p.1, p.2.map (Ob.scr X))) = ms' := by exact cs) (hv : r.ren (Pw.rb ks d) = v := by exact cs) (hts : ts.map (fun p => (p.1, scr X p.2)) = ts' := by first | exact scr_list _ | exact cs) :
    runL P T n ops i (⟨some d, .call c, ty, pos, after, none⟩ :: os) (St ts ms) trs K := R_callB ks hc hf he hd hok hargs hMs hX hms hv hts h
theorem qd7 {d : Tmp} {c : Call} {f : Operand} {ty : TypeId} {pos : String} {after : Array Edge} {ts : List (Nat × AV)} {ms : List (Nat × Option Ob)} {fid : Nat} {caps : List (Nat × Nat × Nat)} (ks : List Nat) {args : List AV} {r : AV} {Ms Ms' OW : List Ob} {tr : Tr} {j : Nat} {ms' : List (Nat × Option Ob)} {v : AV}
    (hc : C P fid args Ms r Ms' OW)
    (h : runL P T n ops j os (St ((d, v) :: ts) ms') (trs ++ [(i, tr)]) (endD ops Q))
    (hf : c.callee = .value f := by exact cr) (he : eval (St ts ms) f = .fn fid caps := by exact ce) (hd : decide (d < n) = true := by exact cr) (hok : callB ms ks d OW.length Ms'.length = true := by exact cr)
    (hargs : callArgs (St ts ms) ks c caps = args := by exact cs) (hMs : callMs (St ts ms) ks = Ms := by exact cs) (hsame : retL (Pw.rb ks d) ks Ms' = ks.map (fun k => (k, lookM ms k)) := by exact cm) (hms : ownL (Pw.rb ks d) (2000 + 8 * d) OW ++ ms = ms' := by exact cs) (hv : r.ren (Pw.rb ks d) = v := by exact cs)
    (htr : trOf (St ts ms) ⟨some d, .call c, ty, pos, after, none⟩ v (ownKeys d OW) ks (lookM ms') = tr := by exact ct) (hj : i + 1 = j := by exact cj) :
    runL P T n ops i (⟨some d, .call c, ty, pos, after, none⟩ :: os) (St ts ms) trs (endD ops Q) := RD_callC ks hc hf he hd hok hargs hMs hsame hms hv htr hj h
theorem qr7 {d : Tmp} {c : Call} {f : Operand} {ty : TypeId} {pos : String} {after : Array Edge} {ts : List (Nat × AV)} {ms : List (Nat × Option Ob)} {fid : Nat} {caps : List (Nat × Nat × Nat)} (ks : List Nat) {args : List AV} {r : AV} {Ms Ms' OW : List Ob} {ms' : List (Nat × Option Ob)} {v : AV}
    (hc : C P fid args Ms r Ms' OW)
    (h : runL P T n ops (i + 1) os (St ((d, v) :: ts) ms') (trs ++ [(i, trOf (St ts ms) ⟨some d, .call c, ty, pos, after, none⟩ v (ownKeys d OW) ks (lookM ms'))]) K)
    (hf : c.callee = .value f := by exact cr) (he : eval (St ts ms) f = .fn fid caps := by exact ce) (hd : decide (d < n) = true := by exact cr) (hok : callB ms ks d OW.length Ms'.length = true := by exact cr)
    (hargs : callArgs (St ts ms) ks c caps = args := by exact cs) (hMs : callMs (St ts ms) ks = Ms := by exact cs) (hsame : retL (Pw.rb ks d) ks Ms' = ks.map (fun k => (k, lookM ms k)) := by exact cm) (hms : ownL (Pw.rb ks d) (2000 + 8 * d) OW ++ ms = ms' := by exact cs) (hv : r.ren (Pw.rb ks d) = v := by exact cs) :
    runL P T n ops i (⟨some d, .call c, ty, pos, after, none⟩ :: os) (St ts ms) trs K := R_callC ks hc hf he hd hok hargs hMs hsame hms hv h
end
section
variable {P : Program} {T : Tab} {cx : Ctx} {s : S} {Q : Exit → S → Prop}
theorem qw1 {x y : Code} (h : W P cx x s (thenQ P cx y Q)) : W P cx (.seq x y) s Q := W_seq h
theorem qw2 {ops : Array Oper} {n : Nat} {id : Nat} {l : List Oper} (h : runL P T n ops 0 l s [] fun s' _ => Q .normal s')
    (hcx : cx.n = n := by exact hn) (hT : TyOk P T := by exact T_ok) (hm : P.follows .mixedOrders = true := by exact mixed) (h9 : decide (n ≤ 999) = true := by exact cr) (hl : ops.toList = l := by exact cr) : W P cx (.region id ops false) s Q := W_reg hcx hT hm h9 hl h
theorem qw3 {ops : Array Oper} {n : Nat} {id : Nat} {l : List Oper} (h : runL P T n ops 0 l s [] fun s' trs => endD ops Q s' trs)
    (hcx : cx.n = n := by exact hn) (hT : TyOk P T := by exact T_ok) (hm : P.follows .mixedOrders = true := by exact mixed) (h9 : decide (n ≤ 999) = true := by exact cr) (hl : ops.toList = l := by exact cr) (hlow : lowB ops = true := by exact cr) : W P cx (.region id ops true) s Q := W_regD hcx hT hm h9 hl hlow h
theorem qw4 {c : Operand} {x y : Code} (h : W P cx x s Q) (hc : eval s c = .d (.lit (.bool true)) := by exact cr) : W P cx (.cond c x y) s Q := W_condT hc h
theorem qw5 {c : Operand} {x y : Code} (h : W P cx y s Q) (hc : eval s c = .d (.lit (.bool false)) := by exact cr) : W P cx (.cond c x y) s Q := W_condF hc h
theorem qw6 {ts : List (Nat × AV)} {ms : List (Nat × Option Ob)} {t : Nat} {x y : Code} {b : Bool} (hT : b = true → W P cx x (St ((t, .d (.lit (.bool true))) :: ts) ms) Q) (hF : b = false → W P cx y (St ((t, .d (.lit (.bool false))) :: ts) ms) Q)
    (hc : look ts t = .d (.lit (.bool b)) := by exact ce) : W P cx (.cond (.tmp t) x y) (St ts ms) Q := W_condA hc hT hF
theorem qw7 (h : Q .normal s) : W P cx .skip s Q := W_skip h
theorem qw8 {id : Nat} (h : Q (.exit id) s) : W P cx (.exit id) s Q := W_exit h
theorem qw9 {id : Nat} {c : Code} (h : W P cx c s (blockQ id Q)) : W P cx (.block id c) s Q := W_block h
theorem qw0 (h : Q .ret s) : W P cx .ret s Q := W_ret h
theorem qb4 {id id' : Nat} (h : Q (.exit id') s) (hne : Nat.beq id' id = false := by exact cr) : blockQ id Q (.exit id') s := blockQ_miss hne h
theorem qe {ops : Array Oper} {trs : List (Nat × Tr)} (h2 : Q .normal s) (hpair : pairsOk ops trs = true := by kernel_rfl) : endD ops Q s trs := endD_i hpair h2
end
theorem qs {ts : List (Nat × AV)} {ms : List (Nat × Option Ob)} {s : S} (h : subOk ts ms s := by
  repeat' first | with_reducible exact sub_nil0 _ | (refine sub_cons ?_ ?_ ?_; (first | rfl | (simp (disch := omega) only [St_tm, St_M, look_nil, look_cons, lookM_nil, lookM_cons, eval, avOf, scal, Nat.reduceEqDiff, Nat.reduceAdd, Nat.reduceMul, Nat.reduceSub, ↓reduceIte, reduceCtorEq, AV.keys, AV.keys2, AV.keys1, ↓flatMap_toL, ↓List.flatMap_nil, ↓List.flatMap_cons, List.append_nil, List.nil_append, List.cons_append, decide_true, decide_false, Int.reduceLT, Int.reduceNeg, Int.reduceToNat, wrap_i64, Int.toNat_natCast, ints_len, strs_len, inss_len, fns_len, actrs_len, implsD_len, makersD_len, hintsD_len, armsD_len, patsD_len, patss_len, Nat.zero_add, slA_t, slA_f, List.take_nil, List.drop_nil, Bool.and_self, Bool.and_false, Bool.false_and, Bool.not_true, Bool.not_false, cond_true, cond_false, List.length_cons, List.length_nil, Int.natCast_zero, E] <;> rfl)); (first | rfl | (simp (disch := omega) only [St_tm, St_M, look_nil, look_cons, lookM_nil, lookM_cons, eval, avOf, scal, Nat.reduceEqDiff, Nat.reduceAdd, Nat.reduceMul, Nat.reduceSub, ↓reduceIte, reduceCtorEq, AV.keys, AV.keys2, AV.keys1, ↓flatMap_toL, ↓List.flatMap_nil, ↓List.flatMap_cons, List.append_nil, List.nil_append, List.cons_append, decide_true, decide_false, Int.reduceLT, Int.reduceNeg, Int.reduceToNat, wrap_i64, Int.toNat_natCast, ints_len, strs_len, inss_len, fns_len, actrs_len, implsD_len, makersD_len, hintsD_len, armsD_len, patsD_len, patss_len, Nat.zero_add, slA_t, slA_f, List.take_nil, List.drop_nil, Bool.and_self, Bool.and_false, Bool.false_and, Bool.not_true, Bool.not_false, cond_true, cond_false, List.length_cons, List.length_nil, Int.natCast_zero, E] <;> rfl))) | (refine sub_nil' ?_ ?_; (repeat' first | exact mOk_nil _ | (refine mOk_cons ?_ ?_; (first | rfl | (simp (disch := omega) only [St_tm, St_M, look_nil, look_cons, lookM_nil, lookM_cons, eval, avOf, scal, Nat.reduceEqDiff, Nat.reduceAdd, Nat.reduceMul, Nat.reduceSub, ↓reduceIte, reduceCtorEq, AV.keys, AV.keys2, AV.keys1, ↓flatMap_toL, ↓List.flatMap_nil, ↓List.flatMap_cons, List.append_nil, List.nil_append, List.cons_append, decide_true, decide_false, Int.reduceLT, Int.reduceNeg, Int.reduceToNat, wrap_i64, Int.toNat_natCast, ints_len, strs_len, inss_len, fns_len, actrs_len, implsD_len, makersD_len, hintsD_len, armsD_len, patsD_len, patss_len, Nat.zero_add, slA_t, slA_f, List.take_nil, List.drop_nil, Bool.and_self, Bool.and_false, Bool.false_and, Bool.not_true, Bool.not_false, cond_true, cond_false, List.length_cons, List.length_nil, Int.natCast_zero, E] <;> rfl)))); (first | rfl | (simp (disch := omega) only [St_tm, St_M, look_nil, look_cons, lookM_nil, lookM_cons, eval, avOf, scal, Nat.reduceEqDiff, Nat.reduceAdd, Nat.reduceMul, Nat.reduceSub, ↓reduceIte, reduceCtorEq, AV.keys, AV.keys2, AV.keys1, ↓flatMap_toL, ↓List.flatMap_nil, ↓List.flatMap_cons, List.append_nil, List.nil_append, List.cons_append, decide_true, decide_false, Int.reduceLT, Int.reduceNeg, Int.reduceToNat, wrap_i64, Int.toNat_natCast, ints_len, strs_len, inss_len, fns_len, actrs_len, implsD_len, makersD_len, hintsD_len, armsD_len, patsD_len, patss_len, Nat.zero_add, slA_t, slA_f, List.take_nil, List.drop_nil, Bool.and_self, Bool.and_false, Bool.false_and, Bool.not_true, Bool.not_false, cond_true, cond_false, List.length_cons, List.length_nil, Int.natCast_zero, E] <;> rfl)))) : subOk ts ms s := h
end Go.Pw

namespace Go.Pw
open Go Go.Proofs
theorem ca {p : Prop} (h : p := by first | (simp (disch := omega) only [callArgs, toArg, List.contains_nil, List.all_nil, List.all_cons, ↓map_toL, ↓List.map_cons, ↓List.map_nil, St_tm, St_M, look_nil, look_cons, lookM_nil, lookM_cons, eval, avOf, scal, Nat.reduceEqDiff, Nat.reduceAdd, Nat.reduceMul, Nat.reduceSub, ↓reduceIte, reduceCtorEq, AV.keys, AV.keys2, AV.keys1, ↓flatMap_toL, ↓List.flatMap_nil, ↓List.flatMap_cons, List.append_nil, List.nil_append, List.cons_append, scr_listM, retL, ownL, ↓map_toL, ↓List.map_cons, ↓List.map_nil, Option.map_some, Option.map_none, Ob.ren, AV.ren, AV.ren2, AV.ren1, Pw.rb, Nat.reduceLT, Nat.reduceSub, List.getD_cons_zero, List.getD_cons_succ, Ob.scr, scr, AV.keys, AV.keys2, AV.keys1, List.any_cons, List.any_nil, List.contains_cons, List.contains_nil, Nat.reduceBEq, Bool.or_false, Bool.false_or, Bool.or_true, Bool.true_or, callX, List.filter_cons, List.filter_nil, callMs, List.filterMap_cons, List.filterMap_nil, Bool.false_eq_true, List.length_cons, List.length_nil, decide_true, decide_false, Int.reduceLT, Int.reduceNeg, Int.reduceToNat, wrap_i64, Int.toNat_natCast, ints_len, strs_len, inss_len, fns_len, actrs_len, implsD_len, makersD_len, hintsD_len, armsD_len, patsD_len, patss_len, Nat.zero_add, slA_t, slA_f, List.take_nil, List.drop_nil, Bool.and_self, Bool.and_false, Bool.false_and, Bool.not_true, Bool.not_false, cond_true, cond_false, List.length_cons, List.length_nil, Int.natCast_zero, List.drop_zero, E]; done) | (simp (disch := omega) only [callArgs, toArg, List.contains_nil, List.all_nil, List.all_cons, ↓map_toL, ↓List.map_cons, ↓List.map_nil, St_tm, St_M, look_nil, look_cons, lookM_nil, lookM_cons, eval, avOf, scal, Nat.reduceEqDiff, Nat.reduceAdd, Nat.reduceMul, Nat.reduceSub, ↓reduceIte, reduceCtorEq, AV.keys, AV.keys2, AV.keys1, ↓flatMap_toL, ↓List.flatMap_nil, ↓List.flatMap_cons, List.append_nil, List.nil_append, List.cons_append, scr_listM, retL, ownL, ↓map_toL, ↓List.map_cons, ↓List.map_nil, Option.map_some, Option.map_none, Ob.ren, AV.ren, AV.ren2, AV.ren1, Pw.rb, Nat.reduceLT, Nat.reduceSub, List.getD_cons_zero, List.getD_cons_succ, Ob.scr, scr, AV.keys, AV.keys2, AV.keys1, List.any_cons, List.any_nil, List.contains_cons, List.contains_nil, Nat.reduceBEq, Bool.or_false, Bool.false_or, Bool.or_true, Bool.true_or, callX, List.filter_cons, List.filter_nil, callMs, List.filterMap_cons, List.filterMap_nil, Bool.false_eq_true, List.length_cons, List.length_nil, decide_true, decide_false, Int.reduceLT, Int.reduceNeg, Int.reduceToNat, wrap_i64, Int.toNat_natCast, ints_len, strs_len, inss_len, fns_len, actrs_len, implsD_len, makersD_len, hintsD_len, armsD_len, patsD_len, patss_len, Nat.zero_add, slA_t, slA_f, List.take_nil, List.drop_nil, Bool.and_self, Bool.and_false, Bool.false_and, Bool.not_true, Bool.not_false, cond_true, cond_false, List.length_cons, List.length_nil, Int.natCast_zero, List.drop_zero, E]; rfl)) : p := h
section
variable {P : Program} {cx : Ctx} {s : S} {Q : Exit → S → Prop}
def joinQ {α : Type} (cx : Ctx) (ts : α → List (Nat × AV)) (ms : α → List (Nat × Option Ob)) (I : α → Prop) (Q : Exit → S → Prop) : Exit → S → Prop
  | .normal, s' => ∃ x, I x ∧ ∃ s'', G cx s' s'' ∧ subOk (ts x) (ms x) s''
  | e, s' => Q e s'
variable {α : Type} {ts : α → List (Nat × AV)} {ms : α → List (Nat × Option Ob)} {I : α → Prop}
theorem joinQ_e {id : Nat} (h : Q (.exit id) s) : joinQ cx ts ms I Q (.exit id) s := h
theorem joinQ_r (h : Q .ret s) : joinQ cx ts ms I Q .ret s := h
theorem joinQ_n (x : α) (h2 : I x) (h3 : subOk (ts x) (ms x) s) : joinQ cx ts ms I Q .normal s := ⟨x, h2, s, G.refl _ _, h3⟩
theorem joinQ_g {s' : S} (hg : G cx s s') (h : joinQ cx ts ms I Q .normal s') : joinQ cx ts ms I Q .normal s := by
  obtain ⟨x, h1, s'', h2, h3⟩ := h
  exact ⟨x, h1, s'', hg.trans h2, h3⟩
theorem loopQ_g {m : α → Nat} {x : α} {s' : S} (hg : G cx s s') (h : loopQ cx ts ms m I x Q .normal s') : loopQ cx ts ms m I x Q .normal s := by
  obtain ⟨x, h0, h1, s'', h2, h3⟩ := h
  exact ⟨x, h0, h1, s'', hg.trans h2, h3⟩
theorem thenQ_j {y : Code} (ts : α → List (Nat × AV)) (ms : α → List (Nat × Option Ob)) (I : α → Prop) {x : Code} (h1 : W P cx x s (joinQ cx ts ms I Q)) (h2 : ∀ a, I a → W P cx y (St (ts a) (ms a)) Q) : W P cx x s (thenQ P cx y Q) :=
  W_mono h1 fun e s' h => by
    cases e with
    | normal =>
      obtain ⟨a, ha, s'', hg, hs⟩ := h
      exact W_ghost (hg.trans (G_sub _ _ hs)) (h2 a ha)
    | _ => exact h
theorem W_join {x y : Code} (ts : α → List (Nat × AV)) (ms : α → List (Nat × Option Ob)) (I : α → Prop) (h1 : W P cx x s (joinQ cx ts ms I Q)) (h2 : ∀ a, I a → W P cx y (St (ts a) (ms a)) Q) : W P cx (.seq x y) s Q :=
  W_seq (thenQ_j ts ms I h1 h2)
end
def unf1 : AV → AV
  | .full es => .d (.sl es)
  | x => x
def unf2 : AV → AV
  | .agg cs => .agg (cs.map unf1)
  | x => unf1 x
def unf : AV → AV
  | .tup vs => .tup (vs.map unf2)
  | x => unf2 x
def Ob.unf : Ob → Ob
  | .box cs => .box (cs.map unf1)
  | o => o
section
variable {w : World} {St0 : Nat → Prop} {M : Mm} {bl : Lc}
theorem RelC_unf {x : AV} {v : Value} (h : RelC w St0 M bl x v) : RelC w St0 M bl (unf1 x) v := by
  cases x with
  | full es => exact h.1
  | _ => exact h
theorem all2_unf {xs : List AV} {vs : List Value} (h : All2 (RelC w St0 M bl) xs vs) : All2 (RelC w St0 M bl) (xs.map unf1) vs := by
  induction h with
  | nil => exact .nil
  | cons h _ ih => exact .cons (RelC_unf h) ih
theorem RelT_unf {x : AV} {v : Value} (h : RelT w St0 M bl x v) : RelT w St0 M bl (unf2 x) v := by
  cases x with
  | agg cs => obtain ⟨vs, rfl, h1, h2⟩ := h; exact ⟨vs, rfl, all2_unf h1, h2⟩
  | full es => exact h.1
  | _ => exact h
theorem RelV_unf {x : AV} {v : Value} (h : RelV w St0 M bl x v) : RelV w St0 M bl (unf x) v := by
  cases x with
  | tup xs =>
    obtain ⟨vs, rfl, h1⟩ := h
    refine ⟨vs, rfl, ?_⟩
    induction h1 with
    | nil => exact .nil
    | cons h _ ih => exact .cons (RelT_unf h) ih
  | agg cs => exact RelT_unf (x := .agg cs) h
  | full es => exact h.1
  | _ => exact h
end
theorem G_unf {cx : Ctx} {s : S} : G cx s ⟨fun t => unf (s.tm t), fun k => (s.M k).map Ob.unf⟩ := by
  rintro a w ⟨St0, bl, h⟩
  have hsome : ∀ {k o'}, ((s.M k).map Ob.unf) = some o' → ∃ o, s.M k = some o ∧ o' = o.unf := by
    intro k o' hm
    cases hk : s.M k with
    | none => rw [hk] at hm; cases hm
    | some o => rw [hk] at hm; cases hm; exact ⟨o, rfl, rfl⟩
  have hfree : ∀ b, Free s.M bl b → Free (fun k => (s.M k).map Ob.unf) bl b := fun b hf k o' hm => by
    obtain ⟨o, h1, _⟩ := hsome hm
    exact hf k o h1
  have mv : Mv w St0 s.M bl w St0 (fun k => (s.M k).map Ob.unf) bl (· ∈ ([] : List Nat)) :=
    ⟨fun b hb => ⟨hb, rfl⟩, fun b _ hf => ⟨hfree b hf, rfl⟩, Nat.le_refl _, fun k o _ hm => ⟨⟨o.unf, by simp only [hm]; rfl, by cases o <;> simp [Ob.like, Ob.unf]⟩, rfl⟩⟩
  refine ⟨St0, bl, ⟨?_, ?_, fun t => RelV_unf (RelV.mv mv (by simp) (h.tm t)), h.n, h.df⟩⟩
  · refine ⟨fun b hb => ⟨(h.mem.st b hb).1, hfree b (h.mem.st b hb).2⟩, fun k o' hm => ?_, fun k1 k2 o1 o2 b h1 h2 => ?_⟩
    · obtain ⟨o, h1, rfl⟩ := hsome hm
      have h2 := h.mem.ob k o h1
      cases o with
      | box cs =>
        obtain ⟨b, c, e, g1, g2, g3, g4⟩ := h2
        exact ⟨b, c, e, g1, g2, g3, all2_unf (all2_imp g4 fun x y hr => RelC.mv mv (by simp) hr)⟩
      | row sz es => exact h2
      | raw x => exact h2
    · obtain ⟨_, g1, _⟩ := hsome h1
      obtain ⟨_, g2, _⟩ := hsome h2
      exact h.mem.inj k1 k2 _ _ b g1 g2
  · refine ⟨h.frm.sz, h.frm.pres, fun k o b hm hb => ?_, h.frm.st0, h.frm.st, h.frm.os, h.frm.tape, h.frm.output, fun k o hm g1 g2 => ?_⟩
    · obtain ⟨_, g1, _⟩ := hsome hm
      exact h.frm.own k _ b g1 hb
    · obtain ⟨_, g3, _⟩ := hsome hm
      exact h.frm.rb k _ g3 g1 g2
theorem G_unfL {cx : Ctx} {ts ts' : List (Nat × AV)} {ms ms' : List (Nat × Option Ob)} (hts : ts.map (fun p => (p.1, Pw.unf p.2)) = ts') (hms : ms.map (fun p => (p.1, p.2.map Ob.unf)) = ms') : G cx (St ts ms) (St ts' ms') := by
  have := G_unf (cx := cx) (s := St ts ms)
  have e1 : (fun t => Pw.unf ((St ts ms).tm t)) = look (ts.map fun p => (p.1, Pw.unf p.2)) := look_map Pw.unf rfl ts
  have e2 : (fun k => ((St ts ms).M k).map Ob.unf) = lookM (ms.map fun p => (p.1, p.2.map Ob.unf)) := lookM_map Ob.unf ms
  rw [e1, e2, hts, hms] at this
  exact this
theorem G_data {cx : Ctx} {ts ts' ts'' : List (Nat × AV)} {ms ms' ms'' : List (Nat × Option Ob)} (Y : List Nat) (hY : (Y.all fun k => !(decide (1000 ≤ k) && decide (k < 2000))) = true)
    (h1 : ts.map (fun p => (p.1, frzV Y (lookM ms) p.2)) = ts') (h2 : Y.map (fun k => (k, none)) ++ ms.map (fun p => (p.1, p.2.map (Ob.frz Y (lookM ms)))) = ms')
    (h3 : ts'.map (fun p => (p.1, Pw.unf p.2)) = ts'') (h4 : ms'.map (fun p => (p.1, p.2.map Ob.unf)) = ms'') : G cx (St ts ms) (St ts'' ms'') := by
  refine G.trans (G_frz ts ms Y fun k hk => ?_) (h1 ▸ h2 ▸ G_unfL h3 h4)
  have := List.all_eq_true.1 hY k hk
  simp at this; omega
theorem ret_any {T : Tab} {cx : Ctx} {rs : List RV} {ts : List (Nat × AV)} {ms : List (Nat × Option Ob)} {r0 r : AV} (h : r0 = r) (hres : resAV T rs (St ts ms) = r0) (hk : r0.keys = []) (hren : r0.ren (fk []) = r0)
    (hfl : (rs.length == 1 || rs.all fun x => notTup (x.av T (St ts ms))) = true) (hok : rs.all (RV.ok T (St ts ms)) = true) : finQ T cx rs 0 r [] [] .ret (St ts ms) := by
  subst h
  refine ⟨_, [], G.refl _ _, fin0 hres hk ?_ hok hren⟩
  simp only [Bool.or_eq_true, beq_iff_eq, List.all_eq_true] at hfl
  exact hfl
theorem cd {p : Prop} (h : p := by first | (simp (disch := omega) only [St_tm, St_M, look_nil, look_cons, lookM_nil, lookM_cons, eval, avOf, scal, Nat.reduceEqDiff, Nat.reduceAdd, Nat.reduceMul, Nat.reduceSub, ↓reduceIte, reduceCtorEq, AV.keys, AV.keys2, AV.keys1, ↓flatMap_toL, ↓List.flatMap_nil, ↓List.flatMap_cons, List.append_nil, List.nil_append, List.cons_append, scr_listM, retL, ownL, ↓map_toL, ↓List.map_cons, ↓List.map_nil, Option.map_some, Option.map_none, Ob.ren, AV.ren, AV.ren2, AV.ren1, Pw.rb, Nat.reduceLT, Nat.reduceSub, List.getD_cons_zero, List.getD_cons_succ, Ob.scr, scr, AV.keys, AV.keys2, AV.keys1, List.any_cons, List.any_nil, List.contains_cons, List.contains_nil, Nat.reduceBEq, Bool.or_false, Bool.false_or, Bool.or_true, Bool.true_or, callX, List.filter_cons, List.filter_nil, callMs, List.filterMap_cons, List.filterMap_nil, Bool.false_eq_true, List.length_cons, List.length_nil, decide_true, decide_false, Int.reduceLT, Int.reduceNeg, Int.reduceToNat, wrap_i64, Int.toNat_natCast, ints_len, strs_len, inss_len, fns_len, actrs_len, implsD_len, makersD_len, hintsD_len, armsD_len, patsD_len, patss_len, Nat.zero_add, slA_t, slA_f, List.take_nil, List.drop_nil, Bool.and_self, Bool.and_false, Bool.false_and, Bool.not_true, Bool.not_false, cond_true, cond_false, List.length_cons, List.length_nil, Int.natCast_zero, frzV, Ob.frz, Pw.unf, unf2, unf1, Ob.unf, List.drop_zero, E]; rfl) | rfl) : p := h
theorem G_d {cx : Ctx} {ts ts' ts'' : List (Nat × AV)} {ms ms' ms'' : List (Nat × Option Ob)} (Y : List Nat) (hY : (Y.all fun k => !(decide (1000 ≤ k) && decide (k < 2000))) = true := by exact cr)
    (h1 : ts.map (fun p => (p.1, frzV Y (lookM ms) p.2)) = ts' := by exact cd) (h2 : Y.map (fun k => (k, none)) ++ ms.map (fun p => (p.1, p.2.map (Ob.frz Y (lookM ms)))) = ms' := by exact cd)
    (h3 : ts'.map (fun p => (p.1, Pw.unf p.2)) = ts'' := by exact cd) (h4 : ms'.map (fun p => (p.1, p.2.map Ob.unf)) = ms'' := by exact cd) : G cx (St ts ms) (St ts'' ms'') := G_data Y hY h1 h2 h3 h4
theorem cy {p : Prop} (h : p := by first | rfl | (simp only [resAV, RV.av, RV.ok, ofCells, Ds.agg, St_tm, St_M, look_nil, look_cons, lookM_nil, lookM_cons, eval, avOf, scal, Nat.reduceEqDiff, Nat.reduceAdd, Nat.reduceMul, Nat.reduceSub, ↓reduceIte, reduceCtorEq, AV.keys, AV.keys2, AV.keys1, ↓flatMap_toL, ↓List.flatMap_nil, ↓List.flatMap_cons, List.append_nil, List.nil_append, List.cons_append, scr_listM, retL, ownL, ↓map_toL, ↓List.map_cons, ↓List.map_nil, Option.map_some, Option.map_none, Ob.ren, AV.ren, AV.ren2, AV.ren1, Pw.rb, Nat.reduceLT, Nat.reduceSub, List.getD_cons_zero, List.getD_cons_succ, Ob.scr, scr, AV.keys, AV.keys2, AV.keys1, List.any_cons, List.any_nil, List.contains_cons, List.contains_nil, Nat.reduceBEq, Bool.or_false, Bool.false_or, Bool.or_true, Bool.true_or, callX, List.filter_cons, List.filter_nil, callMs, List.filterMap_cons, List.filterMap_nil, Bool.false_eq_true, List.length_cons, List.length_nil, fk, notTup, List.all_cons, List.all_nil, AV.isU, List.length_cons, List.length_nil, Y, E]; done) | (simp only [resAV, RV.av, RV.ok, ofCells, Ds.agg, St_tm, St_M, look_nil, look_cons, lookM_nil, lookM_cons, eval, avOf, scal, Nat.reduceEqDiff, Nat.reduceAdd, Nat.reduceMul, Nat.reduceSub, ↓reduceIte, reduceCtorEq, AV.keys, AV.keys2, AV.keys1, ↓flatMap_toL, ↓List.flatMap_nil, ↓List.flatMap_cons, List.append_nil, List.nil_append, List.cons_append, scr_listM, retL, ownL, ↓map_toL, ↓List.map_cons, ↓List.map_nil, Option.map_some, Option.map_none, Ob.ren, AV.ren, AV.ren2, AV.ren1, Pw.rb, Nat.reduceLT, Nat.reduceSub, List.getD_cons_zero, List.getD_cons_succ, Ob.scr, scr, AV.keys, AV.keys2, AV.keys1, List.any_cons, List.any_nil, List.contains_cons, List.contains_nil, Nat.reduceBEq, Bool.or_false, Bool.false_or, Bool.or_true, Bool.true_or, callX, List.filter_cons, List.filter_nil, callMs, List.filterMap_cons, List.filterMap_nil, Bool.false_eq_true, List.length_cons, List.length_nil, fk, notTup, List.all_cons, List.all_nil, AV.isU, List.length_cons, List.length_nil, Y, E]; rfl)) : p := h
theorem ret_a {T : Tab} {cx : Ctx} {rs : List RV} {ts : List (Nat × AV)} {ms : List (Nat × Option Ob)} {r0 r : AV} (h : r0 = r) (hres : resAV T rs (St ts ms) = r0 := by exact cy) (hk : r0.keys = [] := by exact cy) (hren : r0.ren (fk []) = r0 := by exact cy)
    (hfl : (rs.length == 1 || rs.all fun x => notTup (x.av T (St ts ms))) = true := by exact cy) (hok : rs.all (RV.ok T (St ts ms)) = true := by exact cy) : finQ T cx rs 0 r [] [] .ret (St ts ms) := ret_any h hres hk hren hfl hok
end Go.Pw

namespace Go.Pw
open Go
theorem slice_nil_run {P : Program} {w : World} {t e : Nat} (hsl : P.underlying t = some (.slice e)) (ad : Option Addr) (len cap : Nat) (xo yo : Operand) :
    (do eqGuard .eql t xo yo (.slice ad len cap) (.slice none 0 0); binOp .eql t (.slice ad len cap) (.slice none 0 0) : Sem Value).run P w = .ok (.bool ad.isNone) w := by
  have hg : (eqGuard .eql t xo yo (.slice ad len cap) (.slice none 0 0)).run P w = .ok () w := rfl
  simp only [Sem.run_bind, hg, Result.andThen_ok]
  have he : (Op.equal t (.slice ad len cap) (.slice none 0 0)).run P w = .ok ad.isNone w := by
    unfold Op.equal Op.maxDepth
    rw [show (10000 : Nat) = 9999 + 1 from rfl, Op.equalIn]
    simp only [Sem.run_bind, run_underlying hsl w, Result.andThen_ok]
    cases ad <;> rfl
  simp only [binOp, Sem.run_bind, he, Result.andThen_ok, Sem.run_pure]
theorem W_nil {P : Program} {T : Tab} {cx : Ctx} {n : Nat} (hcx : cx.n = n) (hT : TyOk P T) (h9 : decide (n ≤ 999) = true) {id : Nat} {x a b : Tmp} {t t' e : Nat} {ty ty' : TypeId} {pos pos' : String} {after after' : Array Edge} {ts : List (Nat × AV)} {ms : List (Nat × Option Ob)} {v : AV} {es : List (List D)} {Q : Exit → S → Prop}
    (hx : look ts x = v) (hv : v = .d (.sl es) ∨ v = .bo es) (hsl : P.underlying t = some (.slice e)) (ha : decide (a < n) = true) (hb : decide (b < n) = true)
    (h : ∀ c : Bool, (c = true → es = []) → Q .normal (St ((b, .d (.lit (.bool c))) :: (a, v) :: ts) ms)) :
    W P cx (.region id #[⟨some a, .move (.tmp x), ty, pos, after, none⟩, ⟨some b, .binOp .eql t (.tmp a) (.const (.slice none 0 0)) t', ty', pos', after', none⟩] false) (St ts ms) Q := by
  subst hcx
  intro a0 w hs
  refine wp_region ?_
  show wpOps P _ _ [0, 1] a0 w
  rw [wpOps_cons]
  have hvk : v.keys = [] := by rcases hv with rfl | rfl <;> rfl
  have h1 : Step P T cx.n #[⟨some a, .move (.tmp x), ty, pos, after, none⟩, ⟨some b, .binOp .eql t (.tmp a) (.const (.slice none 0 0)) t', ty', pos', after', none⟩] ⟨some a, .move (.tmp x), ty, pos, after, none⟩ (St ts ms) (S.app (St ts ms) (some a) v [] (lookM ms)) _ :=
    step_op_of (fun d hd => by cases hd; simpa using ha) (.inl rfl) (stepOp_plain (u := pureO (St ts ms) v v.keys True) rfl (by simp only [out, eval, St_tm, hx]) trivial)
  refine step_sound hT (by simpa using h9) rfl h1 hs fun a' w' hs' => ?_
  rw [app_some0] at hs'
  rw [wpOps_cons]
  unfold wpOp
  simp only [List.getElem?_toArray, List.getElem?_cons_succ, List.getElem?_cons_zero, Region.wanted, if_true]
  left
  obtain ⟨St0, bl, h2⟩ := hs'
  have h3 := h2.tm a
  have e3 : (St ((a, v) :: ts) ms).tm a = v := by simp [St, look]
  rw [e3] at h3
  obtain ⟨ad, cap, hval, hne⟩ : ∃ ad cap, a'.tmps.getD a undef = .slice ad es.length cap ∧ (es ≠ [] → ad ≠ none) := by
    rcases hv with rfl | rfl
    · obtain ⟨ad, cap, q1, _, _, q4⟩ := RelD.sl_iff.1 (show RelD w' St0 (.sl es) _ from h3)
      exact ⟨ad, cap, q1, fun hn => by obtain ⟨b, o, sz, q5, _⟩ := q4 hn; rw [q5]; simp⟩
    · obtain ⟨ad, cap, q1, _, _, q4⟩ := (show RelC w' St0 _ bl (.bo es) _ from h3)
      exact ⟨ad, cap, q1, fun hn => by obtain ⟨b, o, sz, q5, _⟩ := q4 hn; rw [q5]; simp⟩
  unfold Oper.wp
  have hex : (execOp a'.eval ⟨some b, .binOp .eql t (.tmp a) (.const (.slice none 0 0)) t', ty', pos', after', none⟩).run P w' = .ok (.value (.bool ad.isNone)) w' := by
    have := slice_nil_run (w := w') hsl ad es.length cap (.tmp a) (.const (.slice none 0 0))
    have e4 : a'.eval (.tmp a) = .slice ad es.length cap := hval
    have e5 : a'.eval (.const (.slice none 0 0)) = .slice none 0 0 := rfl
    simp only [execOp, e4, e5]
    rw [Sem.run_bind, this]; rfl
  rw [hex]
  refine ⟨St ((b, .d (.lit (.bool ad.isNone))) :: (a, v) :: ts) ms, ⟨St0, bl, ?_⟩, h _ fun hc => ?_⟩
  · exact h2.pure (by simpa using hb) (relV_lit rfl)
  · by_cases hn : es = []
    · exact hn
    · have := hne hn
      cases ad with
      | none => exact absurd rfl this
      | some _ => cases hc
end Go.Pw

namespace Go.Pw
open Go
theorem G_adoptB {cx : Ctx} {ts : List (Nat × AV)} {ms : List (Nat × Option Ob)} (b i k sz : Nat) {cs : List AV} (hb : lookM ms b = some (.box cs)) (hc : cs[i]? = some (.full [])) (hk : lookM ms k = none) (hr : 2000 ≤ k ∨ k < 1000) :
    G cx (St ts ms) (St ts ((b, some (.box (cs.set i (.ref k 0 0)))) :: (k, some (.row sz [])) :: ms)) := by
  rintro a w ⟨St0, bl, hs⟩
  have hbk : b ≠ k := by intro e; subst e; rw [hk] at hb; cases hb
  show Sim cx ⟨look ts, upd (upd (lookM ms) k (some (Ob.row sz []))) b (some (.box (cs.set i (.ref k 0 0))))⟩ a w
  have hM : ∀ k' o, upd (upd (lookM ms) k (some (Ob.row sz []))) b (some (.box (cs.set i (.ref k 0 0)))) k' = some o → (k' = k ∧ o = .row sz []) ∨ (k' = b ∧ o = .box (cs.set i (.ref k 0 0))) ∨ (k' ≠ k ∧ k' ≠ b ∧ lookM ms k' = some o) := by
    intro k' o hm
    by_cases e1 : k' = b
    · subst e1; rw [upd_same] at hm; exact .inr (.inl ⟨rfl, (Option.some.inj hm).symm⟩)
    · rw [upd_ne _ _ e1] at hm
      by_cases e2 : k' = k
      · subst e2; rw [upd_same] at hm; exact .inl ⟨rfl, (Option.some.inj hm).symm⟩
      · rw [upd_ne _ _ e2] at hm; exact .inr (.inr ⟨e2, e1, hm⟩)
  have hMk : upd (upd (lookM ms) k (some (Ob.row sz []))) b (some (.box (cs.set i (.ref k 0 0)))) k = some (Ob.row sz []) := by
    rw [upd_ne _ _ (Ne.symm hbk), upd_same]
  have mv : Mv w St0 (lookM ms) bl w St0 (upd (upd (lookM ms) k (some (Ob.row sz []))) b (some (.box (cs.set i (.ref k 0 0))))) (upd bl k ⟨none, 0, 0, 0⟩) (· ∈ ([] : List Nat)) := by
    refine ⟨fun b' hb' => ⟨hb', rfl⟩, fun b' _ hf => ⟨fun k' o hm => ?_, rfl⟩, Nat.le_refl _, fun k' o _ hm => ?_⟩
    · rcases hM k' o hm with ⟨rfl, rfl⟩ | ⟨rfl, rfl⟩ | ⟨e1, _, h⟩
      · rw [upd_same]; simp
      · rw [upd_ne _ _ hbk]; exact hf _ _ hb
      · rw [upd_ne _ _ e1]; exact hf k' o h
    · have e : k' ≠ k := by intro e; subst e; rw [show lookM ms k' = some o from hm] at hk; cases hk
      refine ⟨?_, upd_ne _ _ e⟩
      by_cases e1 : k' = b
      · subst e1
        rw [show lookM ms k' = some o from hm] at hb; cases hb
        exact ⟨_, upd_same .., trivial⟩
      · exact ⟨o, by rw [upd_ne _ _ e1, upd_ne _ _ e]; exact hm, o.like_refl⟩
  have hst : Sim1 cx (St ts ms) a w St0 bl := hs
  refine ⟨St0, upd bl k ⟨none, 0, 0, 0⟩, ⟨⟨fun b' hb' => ⟨(hs.mem.st b' hb').1, (mv.fr b' (hs.mem.st b' hb').1 (hs.mem.st b' hb').2).1⟩, fun k' o hm => ?_, fun k1 k2 o1 o2 b' h1 h2 hb1 hb2 => ?_⟩, ?_, fun t' => RelV.mv mv (by simp) (hs.tm t'), hs.n, hs.df⟩⟩
  · rcases hM k' o hm with ⟨rfl, rfl⟩ | ⟨rfl, rfl⟩ | ⟨e1, _, h⟩
    · exact .inl ⟨by rw [upd_same], rfl, by rw [upd_same]⟩
    · obtain ⟨b0, c, e, g1, g2, g3, g4⟩ := hs.mem.ob k' _ hb
      refine ⟨b0, c, e, by rw [upd_ne _ _ hbk]; exact g1, by rw [upd_ne _ _ hbk]; exact g2, g3, ?_⟩
      refine All2.of_get (by simpa using g4.length) fun j x y hx hy => ?_
      by_cases hj : i = j
      · subst hj
        obtain ⟨y', hy', hr'⟩ := g4.get i _ hc
        rw [hy] at hy'; cases hy'
        have hlt := (List.getElem?_eq_some_iff.1 hc).1
        rw [List.getElem?_set_self hlt] at hx; cases hx
        obtain ⟨_, a1, h2⟩ := (show RelC w St0 (lookM ms) bl (.full []) _ from hr')
        rw [h2]
        exact ⟨sz, [], a1, hMk, by simp, by rw [upd_same]; rfl, by rw [upd_same]; simp⟩
      · rw [List.getElem?_set_ne hj] at hx
        obtain ⟨y', hy', hr'⟩ := g4.get j x hx
        rw [hy] at hy'; cases hy'
        exact RelC.mv mv (by simp) hr'
    · have h0 : ObRel w St0 (lookM ms) bl k' o := hs.mem.ob k' o h
      have h1 := h0.mv (X := []) mv (upd_ne _ _ e1) (fun _ _ => rfl)
      rwa [Ob.scr_nil] at h1
  · have un : ∀ k' o b', upd (upd (lookM ms) k (some (Ob.row sz []))) b (some (.box (cs.set i (.ref k 0 0)))) k' = some o → (upd bl k ⟨none, 0, 0, 0⟩ k').b = some b' → ∃ o', lookM ms k' = some o' ∧ (bl k').b = some b' := by
      intro k' o b' hm hb'
      rcases hM k' o hm with ⟨rfl, rfl⟩ | ⟨rfl, rfl⟩ | ⟨e1, _, h⟩
      · rw [upd_same] at hb'; cases hb'
      · rw [upd_ne _ _ hbk] at hb'; exact ⟨_, hb, hb'⟩
      · rw [upd_ne _ _ e1] at hb'; exact ⟨_, h, hb'⟩
    obtain ⟨p1, q1, r1⟩ := un k1 o1 b' h1 hb1
    obtain ⟨p2, q2, r2⟩ := un k2 o2 b' h2 hb2
    exact hs.mem.inj _ _ _ _ _ q1 q2 r1 r2
  · refine ⟨hs.frm.sz, hs.frm.pres, fun k' o b' hm hb' => ?_, hs.frm.st0, hs.frm.st, hs.frm.os, hs.frm.tape, hs.frm.output, fun k' o hm h1 h2 => ?_⟩
    · rcases hM k' o hm with ⟨rfl, rfl⟩ | ⟨rfl, rfl⟩ | ⟨e1, _, h⟩
      · rw [upd_same] at hb'; cases hb'
      · rw [upd_ne _ _ hbk] at hb'; exact hs.frm.own _ _ b' hb hb'
      · rw [upd_ne _ _ e1] at hb'; exact hs.frm.own k' o b' h hb'
    · have e : k' ≠ k := by omega
      rw [upd_ne _ _ e]
      rcases hM k' o hm with ⟨rfl, rfl⟩ | ⟨rfl, rfl⟩ | ⟨_, _, h⟩
      · exact absurd rfl e
      · exact hs.frm.rb _ _ hb h1 h2
      · exact hs.frm.rb k' o h h1 h2
end Go.Pw
