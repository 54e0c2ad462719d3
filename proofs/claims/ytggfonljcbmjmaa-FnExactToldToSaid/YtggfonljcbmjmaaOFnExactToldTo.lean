import Derived.Test.YtggfonljcbmjmaaPFnExactToldTox0
import Derived.ChangeArms
import Derived.DataReads
import Derived.DataElems
namespace Go.Proofs.Ytggfonljcbmjmaa.PFnExactToldTo
open Go.RowKit Go.Proofs.YtggfonljcbmjmaaW.PrintWords Go.Proofs.YtggfonljcbmjmaaW.PrintLast
set_option linter.unusedVariables false
set_option linter.unusedSectionVars false

section
variable {H : Type} {enc : TypeId × Value → H} {P : Program} {w : World} {t e : TypeId}
/-- Whatever reads at type t is of kind d, and good. -/
def Opens (P : Program) (enc : TypeId × Value → H) (w : World) (t : TypeId) {α : Type} (d : Kd α) (good : α → Prop) : Prop :=
  ∀ fuel cs x, DataW.trod enc P w 0 (fun _ => true) true fuel t cs = some x → ∃ a : α, d.K w a cs ∧ good a
theorem opens_int {k : IntKind} (ht : P.underlying t = some (.int k)) : Opens P enc w t (Kd.int k) (fun n => (Lit.int k n).wf = true) := by
  intro fuel cs x h
  obtain ⟨n, rfl, _, hw⟩ := DataW.trod_int ht h
  exact ⟨n, rfl, hw⟩
theorem opens_bool (ht : P.underlying t = some .bool) : Opens P enc w t Kd.bool (fun _ => True) := by
  intro fuel cs x h
  obtain ⟨n, rfl, _⟩ := DataW.trod_bool ht h
  exact ⟨n, rfl, trivial⟩
theorem opens_string (ht : P.underlying t = some .string) : Opens P enc w t Kd.string (fun s => s.size ≤ maxLen) := by
  intro fuel cs x h
  obtain ⟨n, rfl, _, hw⟩ := DataW.trod_string ht h
  exact ⟨n, rfl, hw⟩
theorem opens_slice {α : Type} {d : Kd α} {good : α → Prop} (z : α) (ht : P.underlying t = some (.slice e)) (hsz : P.cellsOf e = d.sz) (ho : Opens P enc w e d good) : Opens P enc w t (Kd.slice e d) (fun l => l.length ≤ 9223372036854775807 ∧ ∀ a ∈ l, good a) := by
  intro fuel cs x h
  rcases DataW.trod_slice ht h with ⟨rfl, _⟩ | ⟨ad, len, cap, elems, rest, n, _, rfl, _, _, hlc, hcm, hel, he, _⟩
  · exact ⟨[], ⟨none, 0, rfl, Nat.le_refl _, rfl, by simp, fun h0 => absurd h0 (by simp)⟩, by simp, by simp⟩
  · have hi : ∀ i : Nat, ∃ a : α × List Value, i < len → w.cells? 0 (ad.add (i * P.cellsOf e)) (P.cellsOf e) = some a.2 ∧ d.K w a.1 a.2 ∧ good a.1 := by
      intro i
      by_cases hlt : i < len
      · have h1 := he i hlt
        rw [List.getElem?_eq_getElem (by omega)] at h1
        obtain ⟨c, h2, h3⟩ := Option.bind_eq_some_iff.1 h1
        obtain ⟨b, hb, hg⟩ := ho _ _ _ h3
        exact ⟨(b, c), fun _ => ⟨h2, hb, hg⟩⟩
      · exact ⟨(z, []), fun h => absurd h hlt⟩
    obtain ⟨f, hf⟩ := Classical.axiomOfChoice hi
    have hlen : ((List.range len).map fun i => (f i).1).length = len := by simp
    refine ⟨(List.range len).map (fun i => (f i).1), ⟨some ad, cap, by rw [hlen], by rw [hlen]; exact hlc, rfl, by rw [hlen]; unfold maxLen at hcm; omega, fun _ => ⟨ad, rfl, ?_⟩⟩, by rw [hlen]; unfold maxLen at hcm; omega, ?_⟩
    · intro j p hp
      have hj : j < len := by
        have := (List.getElem?_eq_some_iff.1 hp).1
        omega
      have hp' : (f j).1 = p := by simpa [hj] using hp
      obtain ⟨h1, h2, h3⟩ := hf j hj
      obtain ⟨_, hcl, hcell⟩ := World.cells?_some h1
      refine ⟨(f j).2, by rw [hcl, hsz], by rw [← hp']; exact h2, fun i u hu => ?_⟩
      have hlt : i < (f j).2.length := (List.getElem?_eq_some_iff.1 hu).1
      have h4 := hcell i (by omega)
      rw [hu, Addr.add_add, hsz] at h4
      exact h4
    · intro b hb
      obtain ⟨i, hi2, rfl⟩ := List.mem_map.1 hb
      exact (hf i (List.mem_range.1 hi2)).2.2
theorem cut_cells (cs : List Value) (o o' s : Nat) (h : o' = o + s) : cs.drop o = (cs.drop o).take s ++ cs.drop o' := by
  subst h
  rw [← List.drop_drop, List.take_append_drop]
end
def good74 (a : S74) : Prop := (fun n => (Lit.int .i64 n).wf = true) a.f0 ∧ (fun s => s.size ≤ maxLen) a.f1 ∧ (fun n => (Lit.int .i64 n).wf = true) a.f2 ∧ (fun _ => True) a.f3 ∧ (fun l => l.length ≤ 9223372036854775807 ∧ ∀ b ∈ l, (fun s => s.size ≤ maxLen) b) a.f4
set_option maxRecDepth 100000 in
theorem open74 {H : Type} {enc : TypeId × Value → H} {w : World} : Opens Try.prog enc w 74 k74 good74 := by
  intro fuel cs x h
  obtain ⟨xs, n, rfl, _, hl0, hn, hf⟩ := DataW.trod_struct Try.underlying74 h
  have hl : cs.length = 5 := hl0.trans (by kernel_rfl)
  have hn' : xs.length = 5 := hn.trans (by rfl)
  have e0 := hf 0 _ rfl
  rw [List.getElem?_eq_getElem (show 0 < xs.length by omega)] at e0
  obtain ⟨a0, k0, g0⟩ := (opens_int Try.underlying3) _ _ _ e0
  have e1 := hf 1 _ rfl
  rw [List.getElem?_eq_getElem (show 1 < xs.length by omega)] at e1
  obtain ⟨a1, k1, g1⟩ := (opens_string Try.underlying9) _ _ _ e1
  have e2 := hf 2 _ rfl
  rw [List.getElem?_eq_getElem (show 2 < xs.length by omega)] at e2
  obtain ⟨a2, k2, g2⟩ := (opens_int Try.underlying3) _ _ _ e2
  have e3 := hf 3 _ rfl
  rw [List.getElem?_eq_getElem (show 3 < xs.length by omega)] at e3
  obtain ⟨a3, k3, g3⟩ := (opens_bool Try.underlying4) _ _ _ e3
  have e4 := hf 4 _ rfl
  rw [List.getElem?_eq_getElem (show 4 < xs.length by omega)] at e4
  obtain ⟨a4, k4, g4⟩ := (opens_slice (⟨#[]⟩ : ByteArray) Try.underlying72 (by kernel_rfl) (opens_string Try.underlying9)) _ _ _ e4
  have hl4 : (cs.drop 4).take (Try.prog.cellsOf 72) = cs.drop 4 := List.take_of_length_le (by rw [List.length_drop, hl]; exact Nat.le_of_eq (by kernel_rfl))
  replace k4 := (show (cs.drop 4).take (Try.prog.cellsOf 72) = cs.drop 4 from hl4) ▸ k4
  exact ⟨⟨a0, a1, a2, a3, a4⟩, ⟨_, _, cut_cells cs 0 1 (Try.prog.cellsOf 3) (by kernel_rfl), k0, ⟨_, _, cut_cells cs 1 2 (Try.prog.cellsOf 9) (by kernel_rfl), k1, ⟨_, _, cut_cells cs 2 3 (Try.prog.cellsOf 3) (by kernel_rfl), k2, ⟨_, _, cut_cells cs 3 4 (Try.prog.cellsOf 4) (by kernel_rfl), k3, k4⟩⟩⟩⟩, ⟨g0, g1, g2, g3, g4⟩⟩
def good76 (a : S76) : Prop := (fun n => (Lit.int .i64 n).wf = true) a.f0 ∧ (fun n => (Lit.int .i64 n).wf = true) a.f1 ∧ (fun _ => True) a.f2 ∧ good74 a.f3
set_option maxRecDepth 100000 in
theorem open76 {H : Type} {enc : TypeId × Value → H} {w : World} : Opens Try.prog enc w 76 k76 good76 := by
  intro fuel cs x h
  obtain ⟨xs, n, rfl, _, hl0, hn, hf⟩ := DataW.trod_struct Try.underlying76 h
  have hl : cs.length = 8 := hl0.trans (by kernel_rfl)
  have hn' : xs.length = 4 := hn.trans (by rfl)
  have e0 := hf 0 _ rfl
  rw [List.getElem?_eq_getElem (show 0 < xs.length by omega)] at e0
  obtain ⟨a0, k0, g0⟩ := (opens_int Try.underlying3) _ _ _ e0
  have e1 := hf 1 _ rfl
  rw [List.getElem?_eq_getElem (show 1 < xs.length by omega)] at e1
  obtain ⟨a1, k1, g1⟩ := (opens_int Try.underlying3) _ _ _ e1
  have e2 := hf 2 _ rfl
  rw [List.getElem?_eq_getElem (show 2 < xs.length by omega)] at e2
  obtain ⟨a2, k2, g2⟩ := (opens_bool Try.underlying4) _ _ _ e2
  have e3 := hf 3 _ rfl
  rw [List.getElem?_eq_getElem (show 3 < xs.length by omega)] at e3
  obtain ⟨a3, k3, g3⟩ := open74 _ _ _ e3
  have hl3 : (cs.drop 3).take (Try.prog.cellsOf 74) = cs.drop 3 := List.take_of_length_le (by rw [List.length_drop, hl]; exact Nat.le_of_eq (by kernel_rfl))
  replace k3 := (show (cs.drop 3).take (Try.prog.cellsOf 74) = cs.drop 3 from hl3) ▸ k3
  exact ⟨⟨a0, a1, a2, a3⟩, ⟨_, _, cut_cells cs 0 1 (Try.prog.cellsOf 3) (by kernel_rfl), k0, ⟨_, _, cut_cells cs 1 2 (Try.prog.cellsOf 3) (by kernel_rfl), k1, ⟨_, _, cut_cells cs 2 3 (Try.prog.cellsOf 4) (by kernel_rfl), k2, k3⟩⟩⟩, ⟨g0, g1, g2, g3⟩⟩
end Go.Proofs.Ytggfonljcbmjmaa.PFnExactToldTo
