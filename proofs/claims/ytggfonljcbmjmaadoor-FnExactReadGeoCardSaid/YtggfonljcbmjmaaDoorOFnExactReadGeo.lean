import Derived.Test.YtggfonljcbmjmaaDoorPFnExactReadGeox0
import Derived.ChangeArms
import Derived.DataReads
import Derived.DataElems
namespace Go.Proofs.YtggfonljcbmjmaaDoor.PFnExactReadGeo
open Go.RowKit Go.Proofs.YtggfonljcbmjmaaDoorW.PrintWords Go.Proofs.YtggfonljcbmjmaaDoorW.PrintLast
set_option linter.unusedVariables false
set_option linter.unusedSectionVars false

section
variable {H : Type} {enc : TypeId × Value → H} {P : Program} {w : World} {t e : TypeId}
/-- Whatever reads at type t is of kind d, and good. -/
def Opens (P : Program) (enc : TypeId × Value → H) (w : World) (t : TypeId) {α : Type} (d : Kd α) (good : α → Prop) : Prop :=
  ∀ fuel cs x, DataW.trod enc P w 0 (fun _ => true) true fuel t cs = some x → ∃ a : α, d.K w a cs ∧ good a
theorem opens_int {k : IntKind} (ht : P.underlying t = some (.int k)) : Opens P enc w t (Kd.int k) (fun n => (Lit.int k n).wf = true) := by
  intro fuel cs x h
  obtain ⟨n, rfl, _, hw⟩ := DataW.trod_int ht h
  exact ⟨n, rfl, hw⟩
theorem opens_bool (ht : P.underlying t = some .bool) : Opens P enc w t Kd.bool (fun _ => True) := by
  intro fuel cs x h
  obtain ⟨n, rfl, _⟩ := DataW.trod_bool ht h
  exact ⟨n, rfl, trivial⟩
theorem opens_string (ht : P.underlying t = some .string) : Opens P enc w t Kd.string (fun s => s.size ≤ maxLen) := by
  intro fuel cs x h
  obtain ⟨n, rfl, _, hw⟩ := DataW.trod_string ht h
  exact ⟨n, rfl, hw⟩
theorem opens_slice {α : Type} {d : Kd α} {good : α → Prop} (z : α) (ht : P.underlying t = some (.slice e)) (hsz : P.cellsOf e = d.sz) (ho : Opens P enc w e d good) : Opens P enc w t (Kd.slice e d) (fun l => l.length ≤ 9223372036854775807 ∧ ∀ a ∈ l, good a) := by
  intro fuel cs x h
  rcases DataW.trod_slice ht h with ⟨rfl, _⟩ | ⟨ad, len, cap, elems, rest, n, _, rfl, _, _, hlc, hcm, hel, he, _⟩
  · exact ⟨[], ⟨none, 0, rfl, Nat.le_refl _, rfl, by simp, fun h0 => absurd h0 (by simp)⟩, by simp, by simp⟩
  · have hi : ∀ i : Nat, ∃ a : α × List Value, i < len → w.cells? 0 (ad.add (i * P.cellsOf e)) (P.cellsOf e) = some a.2 ∧ d.K w a.1 a.2 ∧ good a.1 := by
      intro i
      by_cases hlt : i < len
      · have h1 := he i hlt
        rw [List.getElem?_eq_getElem (by omega)] at h1
        obtain ⟨c, h2, h3⟩ := Option.bind_eq_some_iff.1 h1
        obtain ⟨b, hb, hg⟩ := ho _ _ _ h3
        exact ⟨(b, c), fun _ => ⟨h2, hb, hg⟩⟩
      · exact ⟨(z, []), fun h => absurd h hlt⟩
    obtain ⟨f, hf⟩ := Classical.axiomOfChoice hi
    have hlen : ((List.range len).map fun i => (f i).1).length = len := by simp
    refine ⟨(List.range len).map (fun i => (f i).1), ⟨some ad, cap, by rw [hlen], by rw [hlen]; exact hlc, rfl, by rw [hlen]; unfold maxLen at hcm; omega, fun _ => ⟨ad, rfl, ?_⟩⟩, by rw [hlen]; unfold maxLen at hcm; omega, ?_⟩
    · intro j p hp
      have hj : j < len := by
        have := (List.getElem?_eq_some_iff.1 hp).1
        omega
      have hp' : (f j).1 = p := by simpa [hj] using hp
      obtain ⟨h1, h2, h3⟩ := hf j hj
      obtain ⟨_, hcl, hcell⟩ := World.cells?_some h1
      refine ⟨(f j).2, by rw [hcl, hsz], by rw [← hp']; exact h2, fun i u hu => ?_⟩
      have hlt : i < (f j).2.length := (List.getElem?_eq_some_iff.1 hu).1
      have h4 := hcell i (by omega)
      rw [hu, Addr.add_add, hsz] at h4
      exact h4
    · intro b hb
      obtain ⟨i, hi2, rfl⟩ := List.mem_map.1 hb
      exact (hf i (List.mem_range.1 hi2)).2.2
theorem cut_cells (cs : List Value) (o o' s : Nat) (h : o' = o + s) : cs.drop o = (cs.drop o).take s ++ cs.drop o' := by
  subst h
  rw [← List.drop_drop, List.take_append_drop]
end
end Go.Proofs.YtggfonljcbmjmaaDoor.PFnExactReadGeo
