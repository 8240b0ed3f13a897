/- The arguments as they are read: what a reading tells of a value. -/
import Derived.Test.YtppebcfhhoggiaaQF47
import Derived.Test.YtppebcfhhoggiaaRows
import Derived.ChangeArms
import Derived.ChangeShapes
import Derived.DataShut
import Derived.OpenShut
set_option linter.unusedVariables false
set_option linter.unusedSimpArgs false
set_option linter.unusedSectionVars false
set_option linter.unnecessarySimpa false
namespace Go.Pw
open Go Go.Proofs
set_option maxRecDepth 8000
section
variable {H : Type} {enc : TypeId × Value → H} {w : World} {sp : Nat → Bool} {held : Bool}
abbrev bulk (d : DataW H) : Nat := Go.Proofs.Ytppebcfhhoggiaa.Rows.uptoBulk d
abbrev bulks (d : List (DataW H)) : Nat := Go.Proofs.Ytppebcfhhoggiaa.Rows.uptoBulkAll d
abbrev Lay (w : World) : Nat → Prop := fun b => b < w.heap.size
theorem ex_list {α : Type} (Q : Nat → α → Prop) : ∀ n, (∀ i, i < n → ∃ x, Q i x) → ∃ l : List α, l.length = n ∧ ∀ i x, l[i]? = some x → Q i x
  | 0, _ => ⟨[], rfl, fun i x h => by simp at h⟩
  | n + 1, h => by
    obtain ⟨l, h1, h2⟩ := ex_list Q n fun i hi => h i (by omega)
    obtain ⟨y, hy⟩ := h n (by omega)
    refine ⟨l ++ [y], by simp [h1], fun i x hx => ?_⟩
    by_cases hi : i < n
    · rw [List.getElem?_append_left (by omega)] at hx; exact h2 i x hx
    · rw [List.getElem?_append_right (by omega)] at hx
      obtain ⟨h3, h4⟩ := List.getElem?_eq_some_iff.1 hx
      simp only [List.length_cons, List.length_nil] at h3
      have : i = n := by omega
      subst this
      simp [h1] at hx
      subst hx; exact hy
theorem sum_le {α : Type} (m : α → Nat) : ∀ (l : List α) (ys : List (DataW H)), l.length = ys.length → (∀ (i : Nat) x y, l[i]? = some x → ys[i]? = some y → m x ≤ bulk y) → (l.map m).sum ≤ bulks ys
  | [], ys, _, _ => by simp
  | x :: l, [], h, _ => by simp at h
  | x :: l, y :: ys, h, hq => by
    have h1 := hq 0 x y rfl rfl
    have h2 := sum_le m l ys (by simpa using h) fun i a b ha hb => hq (i + 1) a b (by simpa using ha) (by simpa using hb)
    simp only [List.map_cons, List.sum_cons, bulks, Go.Proofs.Ytppebcfhhoggiaa.Rows.uptoBulkAll] at h2 ⊢
    exact Nat.add_le_add h1 h2
theorem cell_in {b o : Nat} {s : Option Nat} {u : Value} (h : w.cell? ⟨b, o, s⟩ = some u) : b < w.heap.size ∧ s = none := by
  unfold World.cell? at h
  dsimp only at h
  split at h
  · rename_i hb
    split at h
    · cases h
    · rename_i hs
      refine ⟨(Array.getElem?_eq_some_iff.1 hb).1, ?_⟩
      cases s with
      | none => rfl
      | some x => exact absurd rfl hs
  · cases h
theorem add_none (b o n : Nat) : Addr.add ⟨b, o, none⟩ n = ⟨b, o + n, none⟩ := by
  unfold Addr.add
  split
  · rename_i h; rw [h]; rfl
  · rfl
theorem add_zero (a : Addr) : a.add 0 = a := by unfold Addr.add; rw [if_pos rfl]
theorem rd_slice {α : Type} {t e : TypeId} (sz : Nat) (row : α → List D) (m : α → Nat) (ok : α → Prop) (ht : Try.prog.underlying t = some (.slice e)) (hc : Try.prog.cellsOf e = sz) (hz : 0 < sz) {n : Nat}
    (hE : ∀ n', n' < n → ∀ cs y, DataW.trod enc Try.prog w 0 sp held n' e cs = some y → ∃ x, All2 (RelD w (Lay w)) (row x) cs ∧ m x ≤ bulk y.1 ∧ ok x) {cs : List Value} {y : DataW H × List MemPlace}
    (h : DataW.trod enc Try.prog w 0 sp held n t cs = some y) : ∃ l : List α, ∃ v, cs = [v] ∧ RelD w (Lay w) (.sl (l.map row)) v ∧ (l.map m).sum + 1 ≤ bulk y.1 ∧ ∀ x ∈ l, ok x := by
  rcases DataW.trod_slice ht h with ⟨rfl, rfl⟩ | ⟨a, len, cap, elems, rest, n', rfl, rfl, rfl, hb, hl, hm, hlen, hel, hsp, hns⟩
  · refine ⟨[], _, rfl, RelD.sl_iff.2 ⟨none, 0, rfl, Nat.le_refl _, Nat.zero_le _, fun h => absurd rfl h⟩, ?_, by simp⟩
    simp [bulk, Go.Proofs.Ytppebcfhhoggiaa.Rows.uptoBulk]
  · rw [hc] at hel
    have hex : ∀ i, i < len → ∃ x, ∃ ci yi, elems[i]? = some yi ∧ w.cells? 0 (a.add (i * sz)) sz = some ci ∧ All2 (RelD w (Lay w)) (row x) ci ∧ m x ≤ bulk yi.1 ∧ ok x := by
      intro i hi
      obtain ⟨yi, hyi⟩ := get_ex (show i < elems.length by omega)
      have h1 := hel i hi
      rw [hyi] at h1
      obtain ⟨ci, hci, htr⟩ := Option.bind_eq_some_iff.1 h1
      obtain ⟨x, hx1, hx2, hx3⟩ := hE n' (by omega) ci yi htr
      exact ⟨x, ci, yi, hyi, hci, hx1, hx2, hx3⟩
    obtain ⟨l, hl1, hl2⟩ := ex_list _ len hex
    refine ⟨l, _, rfl, ?_, ?_, fun x hx => ?_⟩
    · refine RelD.sl_iff.2 ⟨some a, cap, by rw [List.length_map, hl1], by rw [List.length_map, hl1]; exact hl, hm, fun hne => ?_⟩
      obtain ⟨b, o, s⟩ := a
      have hl0 : 0 < l.length := by
        cases l with
        | nil => exact absurd rfl hne
        | cons => simp
      obtain ⟨x0, hx0⟩ := get_ex hl0
      obtain ⟨c0, y0, _, g2, _⟩ := hl2 0 x0 hx0
      obtain ⟨_, g3, g4⟩ := World.cells?_some g2
      obtain ⟨u0, hu0⟩ := get_ex (show 0 < c0.length by omega)
      have g4 := g4 0 hz
      rw [hu0, Nat.zero_mul, add_zero, add_zero] at g4
      obtain ⟨g5, rfl⟩ := cell_in g4
      have hcell : ∀ i x, l[i]? = some x → ∃ ci, ci.length = sz ∧ (∀ j, j < sz → w.cell? ⟨b, o + (i * sz + j), none⟩ = ci[j]?) ∧ All2 (RelD w (Lay w)) (row x) ci := by
        intro i x hx
        obtain ⟨ci, yi, _, h2, h3, _, _⟩ := hl2 i x hx
        obtain ⟨_, h4, h5⟩ := World.cells?_some h2
        refine ⟨ci, h4, fun j hj => ?_, h3⟩
        rw [← h5 j hj]
        rw [add_none, add_none, Nat.add_assoc]
      refine ⟨b, o, sz, rfl, g5, fun e he => ?_, fun i e he j x hx => ?_⟩
      · obtain ⟨z, hz1, rfl⟩ := List.mem_map.1 he
        obtain ⟨i, hi⟩ := List.getElem?_of_mem hz1
        obtain ⟨ci, k1, _, k3⟩ := hcell i z hi
        rw [k3.length, k1]
      · rw [List.getElem?_map] at he
        obtain ⟨z, hz1, rfl⟩ := Option.map_eq_some_iff.1 he
        obtain ⟨ci, k1, k2, k3⟩ := hcell i z hz1
        obtain ⟨u, hu, hr⟩ := k3.get j x hx
        exact ⟨u, by rw [k2 j (by have := (List.getElem?_eq_some_iff.1 hu).1; omega)]; exact hu, hr⟩
    · have hs : (l.map m).sum ≤ bulks (elems.map (·.1)) := by
        refine sum_le m l _ (by rw [List.length_map]; omega) fun i x y hx hy => ?_
        obtain ⟨ci, yi, h1, _, _, h4, _⟩ := hl2 i x hx
        rw [List.getElem?_map, h1] at hy
        obtain rfl := Option.some.inj hy
        exact h4
      simp only [bulks, bulk, Go.Proofs.Ytppebcfhhoggiaa.Rows.uptoBulk] at hs ⊢
      omega
    · obtain ⟨i, hi⟩ := List.getElem?_of_mem hx
      obtain ⟨_, _, _, _, _, _, h6⟩ := hl2 i x hi
      exact h6
end
end Go.Pw
