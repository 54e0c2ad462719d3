-- Written by hook.py of this session over the kit's print program; Lean checks it.
import Derived.Test.YtggfonljcbmjmaaDoorPFnExactActLinex0
import Derived.Test.YtggfonljcbmjmaaDoorPFnExactActLinex1
import Derived.Test.YtggfonljcbmjmaaDoorPFnExactActLinex5
import Derived.Test.YtggfonljcbmjmaaDoorPFnExactActLinex6
import Derived.Test.YtggfonljcbmjmaaDoorAFnExactActLine
namespace Go.Proofs.YtggfonljcbmjmaaDoor.PFnExactActLine
open Go.RowKit Go.Proofs.YtggfonljcbmjmaaDoorW.PrintWords Go.Proofs.YtggfonljcbmjmaaDoorW.PrintLast Go.Proofs.YtggfonljcbmjmaaDoorW.PrintMore
attribute [local go_sem] max2_int min2_int max_two min_two max_three min_three max_four min_four   -- for this text's walks alone
set_option linter.unusedVariables false
set_option linter.unusedSimpArgs false

attribute [local go_sem high] eqA26
/-! ### impl_AskLine: function 13 -/
mutual
def impl_AskLine.j0 : Nat → Bool → Int → ByteArray → ByteArray → Int → Int → ByteArray → Option (ByteArray)
 | 0, _, _, _, _, _, _, _ => none
 | k + 1, x25, x187000, x187001, x187002, x187003, x187004, x187005 => if x25 = true then (some (⟨#[]⟩ : ByteArray)) else ((impl_askWords.f).bind fun t191 => (if 0 ≤ x187000 then (if x187000 < (t191.length : Int) then (if (rdOf ByteArray.empty t191 x187000).size + 1 ≤ 9223372036854775807 then (if ((rdOf ByteArray.empty t191 x187000) ++ (⟨#[32]⟩ : ByteArray)).size + x187001.size ≤ 9223372036854775807 then (if x187000 = 5 then ((impl_isLinePath.f k x187002).bind fun t196 => (if t196 = true then (if 1 + x187002.size ≤ 9223372036854775807 then (if (((rdOf ByteArray.empty t191 x187000) ++ (⟨#[32]⟩ : ByteArray)) ++ x187001).size + ((⟨#[32]⟩ : ByteArray) ++ x187002).size ≤ 9223372036854775807 then (impl_AskLine.j1 k ((((rdOf ByteArray.empty t191 x187000) ++ (⟨#[32]⟩ : ByteArray)) ++ x187001) ++ ((⟨#[32]⟩ : ByteArray) ++ x187002)) 0 (⟨#[]⟩ : ByteArray) (⟨#[]⟩ : ByteArray) x187003 x187004 x187005) else (none)) else (none)) else (some (⟨#[]⟩ : ByteArray)))) else (if x187000 = 6 then ((impl_Decimal.f x187003).bind fun t197 => (if 1 + t197.size ≤ 9223372036854775807 then (if ((⟨#[32]⟩ : ByteArray) ++ t197).size + 1 ≤ 9223372036854775807 then ((impl_Decimal.f x187004).bind fun t198 => (if (((⟨#[32]⟩ : ByteArray) ++ t197) ++ (⟨#[32]⟩ : ByteArray)).size + t198.size ≤ 9223372036854775807 then (if (((rdOf ByteArray.empty t191 x187000) ++ (⟨#[32]⟩ : ByteArray)) ++ x187001).size + ((((⟨#[32]⟩ : ByteArray) ++ t197) ++ (⟨#[32]⟩ : ByteArray)) ++ t198).size ≤ 9223372036854775807 then (impl_AskLine.j1 k ((((rdOf ByteArray.empty t191 x187000) ++ (⟨#[32]⟩ : ByteArray)) ++ x187001) ++ ((((⟨#[32]⟩ : ByteArray) ++ t197) ++ (⟨#[32]⟩ : ByteArray)) ++ t198)) 0 (⟨#[]⟩ : ByteArray) x187002 0 0 x187005) else (none)) else (none))) else (none)) else (none))) else (if x187000 = 7 then ((impl_Decimal.f x187003).bind fun t199 => (if 1 + t199.size ≤ 9223372036854775807 then (if ((⟨#[32]⟩ : ByteArray) ++ t199).size + 1 ≤ 9223372036854775807 then ((impl_hexOrDash.f x187005).bind fun t200 => (if (((⟨#[32]⟩ : ByteArray) ++ t199) ++ (⟨#[32]⟩ : ByteArray)).size + t200.size ≤ 9223372036854775807 then (if (((rdOf ByteArray.empty t191 x187000) ++ (⟨#[32]⟩ : ByteArray)) ++ x187001).size + ((((⟨#[32]⟩ : ByteArray) ++ t199) ++ (⟨#[32]⟩ : ByteArray)) ++ t200).size ≤ 9223372036854775807 then (impl_AskLine.j1 k ((((rdOf ByteArray.empty t191 x187000) ++ (⟨#[32]⟩ : ByteArray)) ++ x187001) ++ ((((⟨#[32]⟩ : ByteArray) ++ t199) ++ (⟨#[32]⟩ : ByteArray)) ++ t200)) 0 (⟨#[]⟩ : ByteArray) x187002 0 x187004 (⟨#[]⟩ : ByteArray)) else (none)) else (none))) else (none)) else (none))) else (if x187000 = 8 then ((impl_Decimal.f x187004).bind fun t201 => (if 1 + t201.size ≤ 9223372036854775807 then (if (((rdOf ByteArray.empty t191 x187000) ++ (⟨#[32]⟩ : ByteArray)) ++ x187001).size + ((⟨#[32]⟩ : ByteArray) ++ t201).size ≤ 9223372036854775807 then (impl_AskLine.j1 k ((((rdOf ByteArray.empty t191 x187000) ++ (⟨#[32]⟩ : ByteArray)) ++ x187001) ++ ((⟨#[32]⟩ : ByteArray) ++ t201)) 0 (⟨#[]⟩ : ByteArray) x187002 x187003 0 x187005) else (none)) else (none))) else (impl_AskLine.j1 k (((rdOf ByteArray.empty t191 x187000) ++ (⟨#[32]⟩ : ByteArray)) ++ x187001) 0 (⟨#[]⟩ : ByteArray) x187002 x187003 x187004 x187005))))) else (none)) else (none)) else (none)) else (none)))
def impl_AskLine.j1 : Nat → ByteArray → Int → ByteArray → ByteArray → Int → Int → ByteArray → Option (ByteArray)
 | 0, _, _, _, _, _, _, _ => none
 | k + 1, x3, x196000, x196001, x196002, x196003, x196004, x196005 => if (!(x196000 == 0) || (!(x196001.toList == ([] : List UInt8)) || (!(x196002.toList == ([] : List UInt8)) || (!(x196003 == 0) || (!(x196004 == 0) || (!(x196005.toList == ([] : List UInt8)))))))) = true then (some (⟨#[]⟩ : ByteArray)) else (some x3)
end
def impl_AskLine.f (k : Nat) (a0_0 : Int) (a0_1 : ByteArray) (a0_2 : ByteArray) (a0_3 : Int) (a0_4 : Int) (a0_5 : ByteArray) : Option (ByteArray) := (impl_AskOk.f a0_0 a0_1 a0_2 a0_3 a0_4 a0_5).bind fun t187 => (if t187 = true then ((impl_isLinePath.f k a0_1).bind fun t188 => (if t188 = true then ((impl_within.f a0_3 0 1000000000).bind fun t189 => (if t189 = true then ((impl_within.f a0_4 0 1000000000).bind fun t190 => (impl_AskLine.j0 k (!t190) a0_0 a0_1 a0_2 a0_3 a0_4 a0_5)) else (impl_AskLine.j0 k true a0_0 a0_1 a0_2 a0_3 a0_4 a0_5))) else (impl_AskLine.j0 k true a0_0 a0_1 a0_2 a0_3 a0_4 a0_5))) else (impl_AskLine.j0 k true a0_0 a0_1 a0_2 a0_3 a0_4 a0_5))
theorem impl_AskLine.mono_l : ∀ k, (∀ y0 y1 y2 y3 y4 y5 y6, LeO (impl_AskLine.j0 k y0 y1 y2 y3 y4 y5 y6) (impl_AskLine.j0 (k + 1) y0 y1 y2 y3 y4 y5 y6)) ∧ (∀ y0 y1 y2 y3 y4 y5 y6, LeO (impl_AskLine.j1 k y0 y1 y2 y3 y4 y5 y6) (impl_AskLine.j1 (k + 1) y0 y1 y2 y3 y4 y5 y6))
 | 0 => ⟨fun _ _ _ _ _ _ _ r h => by simp [impl_AskLine.j0] at h, fun _ _ _ _ _ _ _ r h => by simp [impl_AskLine.j1] at h⟩
 | k + 1 => by
  obtain ⟨ih0, ih1⟩ := impl_AskLine.mono_l k
  refine ⟨?_, ?_⟩
  ·intro y0 y1 y2 y3 y4 y5 y6
   unfold impl_AskLine.j0
   repeat' first
   | (with_reducible exact ih0 _ _ _ _ _ _ _)
   | (with_reducible exact ih1 _ _ _ _ _ _ _)
   | (with_reducible exact impl_isLinePath.mono _ _)
   | (with_reducible exact LeO.refl _)
   | (with_reducible exact LeO.none _)
   | (with_reducible refine LeO.ite ?_ ?_)
   | (with_reducible refine LeO.bind ?_ (fun _ => ?_))
   | exact ih0 _ _ _ _ _ _ _
   | exact ih1 _ _ _ _ _ _ _
   | exact impl_isLinePath.mono _ _
   | exact LeO.none _
   | refine LeO.ite ?_ ?_
   | refine LeO.bind ?_ (fun _ => ?_)
  ·intro y0 y1 y2 y3 y4 y5 y6
   unfold impl_AskLine.j1
   repeat' first
   | (with_reducible exact ih0 _ _ _ _ _ _ _)
   | (with_reducible exact ih1 _ _ _ _ _ _ _)
   | (with_reducible exact impl_isLinePath.mono _ _)
   | (with_reducible exact LeO.refl _)
   | (with_reducible exact LeO.none _)
   | (with_reducible refine LeO.ite ?_ ?_)
   | (with_reducible refine LeO.bind ?_ (fun _ => ?_))
   | exact ih0 _ _ _ _ _ _ _
   | exact ih1 _ _ _ _ _ _ _
   | exact impl_isLinePath.mono _ _
   | exact LeO.none _
   | refine LeO.ite ?_ ?_
   | refine LeO.bind ?_ (fun _ => ?_)
theorem impl_AskLine.mono : ∀ a0 a1 a2 a3 a4 a5 k, LeO (impl_AskLine.f k a0 a1 a2 a3 a4 a5) (impl_AskLine.f (k + 1) a0 a1 a2 a3 a4 a5) := by
 intro a0 a1 a2 a3 a4 a5 k
 obtain ⟨ih0, ih1⟩ := impl_AskLine.mono_l k
 unfold impl_AskLine.f
 repeat' first
   | (with_reducible exact ih0 _ _ _ _ _ _ _)
   | (with_reducible exact ih1 _ _ _ _ _ _ _)
   | (with_reducible exact impl_isLinePath.mono _ _)
   | (with_reducible exact LeO.refl _)
   | (with_reducible exact LeO.none _)
   | (with_reducible refine LeO.ite ?_ ?_)
   | (with_reducible refine LeO.bind ?_ (fun _ => ?_))
   | exact ih0 _ _ _ _ _ _ _
   | exact ih1 _ _ _ _ _ _ _
   | exact impl_isLinePath.mono _ _
   | exact LeO.none _
   | refine LeO.ite ?_ ?_
   | refine LeO.bind ?_ (fun _ => ?_)
def impl_AskLine.T3 : Bool × List (List Nat × List Nat) := (true, [([], []), ([], []), ([1], [1]), ([0, 2], [0, 2]), ([3], [3]), ([4], [4]), ([], []), ([6], [6]), ([5, 7], [5, 7]), ([8, 0, 0, 1, 2, 3, 4, 5, 6, 7, 8], [8])])
def impl_AskLine.B3 : List Nat := [0, 0, 2, 7, 15, 31, 0, 64, 255, 511]
theorem impl_AskLine.tab3 : rtab .any (opsOf Tryd.f13 3) = impl_AskLine.T3 := by kernel_rfl
theorem impl_AskLine.bits3 : waitsOk impl_AskLine.T3.2 impl_AskLine.B3 = true := by kernel_rfl
def impl_AskLine.T13 : Bool × List (List Nat × List Nat) := (true, [([], []), ([], []), ([1], [1]), ([2], [2]), ([3], [3]), ([4], [4]), ([], []), ([6], [6]), ([7, 3], [7]), ([5, 8], [5, 8]), ([0, 9], [0, 9]), ([10, 8, 0, 1, 2, 3, 4, 5, 6, 7, 8, 9, 10], [0, 10])])
def impl_AskLine.B13 : List Nat := [0, 0, 2, 6, 14, 30, 0, 64, 206, 510, 1023, 2047]
theorem impl_AskLine.tab13 : rtab .any (opsOf Tryd.f13 13) = impl_AskLine.T13 := by kernel_rfl
theorem impl_AskLine.bits13 : waitsOk impl_AskLine.T13.2 impl_AskLine.B13 = true := by kernel_rfl
def impl_AskLine.T16 : Bool × List (List Nat × List Nat) := (true, [([], []), ([], []), ([1], [1]), ([2], [2]), ([3], [3]), ([4], [4]), ([], []), ([6], [6]), ([7, 3], [7]), ([5, 8], [5, 8]), ([0, 9], [0, 9]), ([10, 8, 0, 1, 2, 3, 4, 5, 6, 7, 8, 9, 10], [0, 10])])
def impl_AskLine.B16 : List Nat := [0, 0, 2, 6, 14, 30, 0, 64, 206, 510, 1023, 2047]
theorem impl_AskLine.tab16 : rtab .any (opsOf Tryd.f13 16) = impl_AskLine.T16 := by kernel_rfl
theorem impl_AskLine.bits16 : waitsOk impl_AskLine.T16.2 impl_AskLine.B16 = true := by kernel_rfl
set_option maxHeartbeats 8000000 in
set_option maxRecDepth 100000 in
theorem impl_AskLine.calls (k : Nat) (a0_0 : Int) (a0_1 : ByteArray) (a0_2 : ByteArray) (a0_3 : Int) (a0_4 : Int) (a0_5 : ByteArray) (r : ByteArray) (w : World) (hG : Glob w) (h : impl_AskLine.f k a0_0 a0_1 a0_2 a0_3 a0_4 a0_5 = some r) :
  Calls Tryd.prog 13 #[.agg #[.int .i64 a0_0, .string a0_1, .string a0_2, .int .i64 a0_3, .int .i64 a0_4, .string a0_5]] w fun e w' => e = .returned (.string r) ∧ Below w.heap.size w w' := by
 have hu26 := Tryd.underlying26
 have HG := Aside0.mk hG
 clear hG
 have HB := Aside0.mk (Below.refl w.heap.size w)
 have H : ((impl_AskOk.f a0_0 a0_1 a0_2 a0_3 a0_4 a0_5).bind fun t187 => (if t187 = true then ((impl_isLinePath.f k a0_1).bind fun t188 => (if t188 = true then ((impl_within.f a0_3 0 1000000000).bind fun t189 => (if t189 = true then ((impl_within.f a0_4 0 1000000000).bind fun t190 => (impl_AskLine.j0 k (!t190) a0_0 a0_1 a0_2 a0_3 a0_4 a0_5)) else (impl_AskLine.j0 k true a0_0 a0_1 a0_2 a0_3 a0_4 a0_5))) else (impl_AskLine.j0 k true a0_0 a0_1 a0_2 a0_3 a0_4 a0_5))) else (impl_AskLine.j0 k true a0_0 a0_1 a0_2 a0_3 a0_4 a0_5))) = some r := h
 clear h
 have HC2 := Aside0.mk H
 clear H
 go_enter Tryd.func13, Tryd.ntmps13
 go_upto_region 1 with (first | ((with_reducible refine gate_dst (N := 1) rfl ?_); refine box_event ?hg (N := 1) ?hd (cs := #[.int .i64 a0_0, .string a0_1, .string a0_2, .int .i64 a0_3, .int .i64 a0_4, .string a0_5]) (t := 26) ?hr ?_; (case hd => rfl); (case hg => rfl); (case hr => first | (go_simp; done) | (go_simp; rfl)); intro gb186 hg w3 hbox hb; have n0_ := Aside0.mk (below_step (by repeat (first | (with_reducible first | exact HB.out | apply below_alloc | apply pw_below_drewN | apply below_drew1) | exact HB.out)) hb); have n1_ := Aside0.mk (hbox); have n2_ := Aside0.mk ((by rw [hg]; exact (below_size (by repeat (first | (with_reducible first | exact HB.out | apply below_alloc | apply pw_below_drewN | apply below_drew1) | exact HB.out))) : w.heap.size ≤ gb186)); have n3_ := Aside0.mk ((by rw [hg]; exact (below_size (by repeat (first | (with_reducible first | exact HB.out | apply below_alloc | apply pw_below_drewN | apply below_drew1) | exact HB.out))) : w.heap.size ≤ gb186)); clear HB; have HB := n0_; have BK186 := n1_; have GW186 := n2_; have GE186 := n3_; clear n0_ n1_ n2_ n3_; clear hb hbox hg))
 (try simp only [Act.put, List.setIfInBounds_toArray, List.set_cons_zero, List.set_cons_succ])
 go_cut [25] (fun v25 wc => ∃ (kq : Nat) (x25_1 : Bool), v25 = .bool x25_1 ∧ Aside0 (impl_AskLine.j0 kq x25_1 a0_0 a0_1 a0_2 a0_3 a0_4 a0_5 = some r) ∧ Aside0 (kq ≤ k) ∧ Aside0 (wc.heap[gb186]? = some (.cells #[.int .i64 a0_0, .string a0_1, .string a0_2, .int .i64 a0_3, .int .i64 a0_4, .string a0_5] 26 (0, 0))) ∧ Aside0 (Below w.heap.size w wc))
 case first =>
  have H := HC2.out
  clear HC2
  replace H := Option.bind_eq_some_iff.mp H
  obtain ⟨t187, A40, H⟩ := H
  replace H : (if t187 = true then ((impl_isLinePath.f k a0_1).bind fun t188 => (if t188 = true then ((impl_within.f a0_3 0 1000000000).bind fun t189 => (if t189 = true then ((impl_within.f a0_4 0 1000000000).bind fun t190 => (impl_AskLine.j0 k (!t190) a0_0 a0_1 a0_2 a0_3 a0_4 a0_5)) else (impl_AskLine.j0 k true a0_0 a0_1 a0_2 a0_3 a0_4 a0_5))) else (impl_AskLine.j0 k true a0_0 a0_1 a0_2 a0_3 a0_4 a0_5))) else (impl_AskLine.j0 k true a0_0 a0_1 a0_2 a0_3 a0_4 a0_5)) = some r := H
  have A4 := Aside0.mk A40
  clear A40
  by_cases c5 : t187 = true
  ·subst c5
   have H1 : ((impl_isLinePath.f k a0_1).bind fun t188 => (if t188 = true then ((impl_within.f a0_3 0 1000000000).bind fun t189 => (if t189 = true then ((impl_within.f a0_4 0 1000000000).bind fun t190 => (impl_AskLine.j0 k (!t190) a0_0 a0_1 a0_2 a0_3 a0_4 a0_5)) else (impl_AskLine.j0 k true a0_0 a0_1 a0_2 a0_3 a0_4 a0_5))) else (impl_AskLine.j0 k true a0_0 a0_1 a0_2 a0_3 a0_4 a0_5))) = some r := by rw [if_pos rfl] at H; exact H
   clear H
   have H := H1
   clear H1
   replace H := Option.bind_eq_some_iff.mp H
   obtain ⟨t188, A60, H⟩ := H
   replace H : (if t188 = true then ((impl_within.f a0_3 0 1000000000).bind fun t189 => (if t189 = true then ((impl_within.f a0_4 0 1000000000).bind fun t190 => (impl_AskLine.j0 k (!t190) a0_0 a0_1 a0_2 a0_3 a0_4 a0_5)) else (impl_AskLine.j0 k true a0_0 a0_1 a0_2 a0_3 a0_4 a0_5))) else (impl_AskLine.j0 k true a0_0 a0_1 a0_2 a0_3 a0_4 a0_5)) = some r := H
   have A6 := Aside0.mk A60
   clear A60
   by_cases c7 : t188 = true
   ·subst c7
    have H1 : ((impl_within.f a0_3 0 1000000000).bind fun t189 => (if t189 = true then ((impl_within.f a0_4 0 1000000000).bind fun t190 => (impl_AskLine.j0 k (!t190) a0_0 a0_1 a0_2 a0_3 a0_4 a0_5)) else (impl_AskLine.j0 k true a0_0 a0_1 a0_2 a0_3 a0_4 a0_5))) = some r := by rw [if_pos rfl] at H; exact H
    clear H
    have H := H1
    clear H1
    replace H := Option.bind_eq_some_iff.mp H
    obtain ⟨t189, A80, H⟩ := H
    replace H : (if t189 = true then ((impl_within.f a0_4 0 1000000000).bind fun t190 => (impl_AskLine.j0 k (!t190) a0_0 a0_1 a0_2 a0_3 a0_4 a0_5)) else (impl_AskLine.j0 k true a0_0 a0_1 a0_2 a0_3 a0_4 a0_5)) = some r := H
    have A8 := Aside0.mk A80
    clear A80
    by_cases c9 : t189 = true
    ·subst c9
     have H1 : ((impl_within.f a0_4 0 1000000000).bind fun t190 => (impl_AskLine.j0 k (!t190) a0_0 a0_1 a0_2 a0_3 a0_4 a0_5)) = some r := by rw [if_pos rfl] at H; exact H
     clear H
     have H := H1
     clear H1
     replace H := Option.bind_eq_some_iff.mp H
     obtain ⟨t190, A100, H⟩ := H
     replace H : (impl_AskLine.j0 k (!t190) a0_0 a0_1 a0_2 a0_3 a0_4 a0_5) = some r := H
     have A10 := Aside0.mk A100
     clear A100
     have H' := Aside0.mk H
     clear H
     have hcz11_0 : w3.cell? ⟨gb186, 0, none⟩ = some (.int .i64 a0_0) := (blk_cell BK186.out 0).trans rfl
     have hcz11_1 : w3.cell? ⟨gb186, 1, none⟩ = some (.string a0_1) := (blk_cell BK186.out 1).trans rfl
     have hcz11_2 : w3.cell? ⟨gb186, 2, none⟩ = some (.string a0_2) := (blk_cell BK186.out 2).trans rfl
     have hcz11_3 : w3.cell? ⟨gb186, 3, none⟩ = some (.int .i64 a0_3) := (blk_cell BK186.out 3).trans rfl
     have hcz11_4 : w3.cell? ⟨gb186, 4, none⟩ = some (.int .i64 a0_4) := (blk_cell BK186.out 4).trans rfl
     have hcz11_5 : w3.cell? ⟨gb186, 5, none⟩ = some (.string a0_5) := (blk_cell BK186.out 5).trans rfl
     have hfz11_0 := blk_frozen BK186.out 0
     have hfz11_1 := blk_frozen BK186.out 1
     have hfz11_2 := blk_frozen BK186.out 2
     have hfz11_3 := blk_frozen BK186.out 3
     have hfz11_4 := blk_frozen BK186.out 4
     have hfz11_5 := blk_frozen BK186.out 5
     go_wp2_with (first | ((with_reducible refine gate_callee (f := 53) rfl ?_); refine goesL_ (some 6) rfl rfl Tryd.func53 (by kernel_rfl) rfl #[.agg #[.int .i64 a0_0, .string a0_1, .string a0_2, .int .i64 a0_3, .int .i64 a0_4, .string a0_5]] rfl (by (try simp only [List.map_toArray, List.map_cons, List.map_nil]); first | done | rfl | (simp only [List.length_drop, List.length_take]; rfl)) ?_; (with_reducible refine (impl_AskOk.calls a0_0 a0_1 a0_2 a0_3 a0_4 a0_5 true _ A4.out).mono ?_); rintro e w12 ⟨rfl, hb⟩; refine ⟨_, rfl, ?_⟩; have n0_ := Aside0.mk (blk_below (g := gb186) (o := .cells #[.int .i64 a0_0, .string a0_1, .string a0_2, .int .i64 a0_3, .int .i64 a0_4, .string a0_5] 26 (0, 0)) (by (with_reducible repeat (first | refine blk_drewN ?_ _ | refine blk_drew ?_ | refine blk_alloc ?_ _)); exact BK186.out) hb); have n1_ := Aside0.mk (below_step (by repeat (first | (with_reducible first | exact HB.out | apply below_alloc | apply pw_below_drewN | apply below_drew1 | refine below_set ?_ GE186.out) | exact HB.out)) hb); clear BK186; clear HB; have BK186 := n0_; have HB := n1_; clear n0_ n1_; (try clear hb); (try clear hb2); (try clear hk); (try clear hi); have hcz13_0 : w12.cell? ⟨gb186, 0, none⟩ = some (.int .i64 a0_0) := (blk_cell BK186.out 0).trans rfl; have hcz13_1 : w12.cell? ⟨gb186, 1, none⟩ = some (.string a0_1) := (blk_cell BK186.out 1).trans rfl; have hcz13_2 : w12.cell? ⟨gb186, 2, none⟩ = some (.string a0_2) := (blk_cell BK186.out 2).trans rfl; have hcz13_3 : w12.cell? ⟨gb186, 3, none⟩ = some (.int .i64 a0_3) := (blk_cell BK186.out 3).trans rfl; have hcz13_4 : w12.cell? ⟨gb186, 4, none⟩ = some (.int .i64 a0_4) := (blk_cell BK186.out 4).trans rfl; have hcz13_5 : w12.cell? ⟨gb186, 5, none⟩ = some (.string a0_5) := (blk_cell BK186.out 5).trans rfl; have hfz13_0 := blk_frozen BK186.out 0; have hfz13_1 := blk_frozen BK186.out 1; have hfz13_2 := blk_frozen BK186.out 2; have hfz13_3 := blk_frozen BK186.out 3; have hfz13_4 := blk_frozen BK186.out 4; have hfz13_5 := blk_frozen BK186.out 5) | (go_at_call 54; (with_reducible refine (impl_isLinePath.calls k a0_1 true _ A6.out).mono ?_); rintro e w' ⟨rfl, ⟨nd, rfl⟩⟩) | (go_at_call 55; (with_reducible refine (impl_within.calls a0_3 0 1000000000 true _ A8.out).mono ?_); rintro e w' ⟨rfl, ⟨nd, rfl⟩⟩) | (go_at_call 55; (with_reducible refine (impl_within.calls a0_4 0 1000000000 t190 _ A10.out).mono ?_); rintro e w' ⟨rfl, ⟨nd, rfl⟩⟩))
     go_meet
     case rel => exact ⟨_, (!t190), (by first | rfl | (simp; done) | (simp [*]; done)), H', ⟨by first | omega | exact Nat.le_refl _⟩, ⟨by (with_reducible repeat (first | refine blk_drewN ?_ _ | refine blk_drew ?_ | refine blk_alloc ?_ _)); exact BK186.out⟩, ⟨by repeat (first | (with_reducible first | exact HB.out | apply below_alloc | apply pw_below_drewN | apply below_drew1 | refine below_set ?_ GE186.out) | exact HB.out)⟩⟩
    ·replace c9 := Bool.eq_false_iff.mpr c9
     subst c9
     have H1 : (impl_AskLine.j0 k true a0_0 a0_1 a0_2 a0_3 a0_4 a0_5) = some r := by rw [if_neg (show ¬ (false = true) by decide)] at H; exact H
     clear H
     have H := H1
     clear H1
     have H' := Aside0.mk H
     clear H
     have hcz14_0 : w3.cell? ⟨gb186, 0, none⟩ = some (.int .i64 a0_0) := (blk_cell BK186.out 0).trans rfl
     have hcz14_1 : w3.cell? ⟨gb186, 1, none⟩ = some (.string a0_1) := (blk_cell BK186.out 1).trans rfl
     have hcz14_2 : w3.cell? ⟨gb186, 2, none⟩ = some (.string a0_2) := (blk_cell BK186.out 2).trans rfl
     have hcz14_3 : w3.cell? ⟨gb186, 3, none⟩ = some (.int .i64 a0_3) := (blk_cell BK186.out 3).trans rfl
     have hcz14_4 : w3.cell? ⟨gb186, 4, none⟩ = some (.int .i64 a0_4) := (blk_cell BK186.out 4).trans rfl
     have hcz14_5 : w3.cell? ⟨gb186, 5, none⟩ = some (.string a0_5) := (blk_cell BK186.out 5).trans rfl
     have hfz14_0 := blk_frozen BK186.out 0
     have hfz14_1 := blk_frozen BK186.out 1
     have hfz14_2 := blk_frozen BK186.out 2
     have hfz14_3 := blk_frozen BK186.out 3
     have hfz14_4 := blk_frozen BK186.out 4
     have hfz14_5 := blk_frozen BK186.out 5
     go_wp2_with (first | ((with_reducible refine gate_callee (f := 53) rfl ?_); refine goesL_ (some 6) rfl rfl Tryd.func53 (by kernel_rfl) rfl #[.agg #[.int .i64 a0_0, .string a0_1, .string a0_2, .int .i64 a0_3, .int .i64 a0_4, .string a0_5]] rfl (by (try simp only [List.map_toArray, List.map_cons, List.map_nil]); first | done | rfl | (simp only [List.length_drop, List.length_take]; rfl)) ?_; (with_reducible refine (impl_AskOk.calls a0_0 a0_1 a0_2 a0_3 a0_4 a0_5 true _ A4.out).mono ?_); rintro e w15 ⟨rfl, hb⟩; refine ⟨_, rfl, ?_⟩; have n0_ := Aside0.mk (blk_below (g := gb186) (o := .cells #[.int .i64 a0_0, .string a0_1, .string a0_2, .int .i64 a0_3, .int .i64 a0_4, .string a0_5] 26 (0, 0)) (by (with_reducible repeat (first | refine blk_drewN ?_ _ | refine blk_drew ?_ | refine blk_alloc ?_ _)); exact BK186.out) hb); have n1_ := Aside0.mk (below_step (by repeat (first | (with_reducible first | exact HB.out | apply below_alloc | apply pw_below_drewN | apply below_drew1 | refine below_set ?_ GE186.out) | exact HB.out)) hb); clear BK186; clear HB; have BK186 := n0_; have HB := n1_; clear n0_ n1_; (try clear hb); (try clear hb2); (try clear hk); (try clear hi); have hcz16_0 : w15.cell? ⟨gb186, 0, none⟩ = some (.int .i64 a0_0) := (blk_cell BK186.out 0).trans rfl; have hcz16_1 : w15.cell? ⟨gb186, 1, none⟩ = some (.string a0_1) := (blk_cell BK186.out 1).trans rfl; have hcz16_2 : w15.cell? ⟨gb186, 2, none⟩ = some (.string a0_2) := (blk_cell BK186.out 2).trans rfl; have hcz16_3 : w15.cell? ⟨gb186, 3, none⟩ = some (.int .i64 a0_3) := (blk_cell BK186.out 3).trans rfl; have hcz16_4 : w15.cell? ⟨gb186, 4, none⟩ = some (.int .i64 a0_4) := (blk_cell BK186.out 4).trans rfl; have hcz16_5 : w15.cell? ⟨gb186, 5, none⟩ = some (.string a0_5) := (blk_cell BK186.out 5).trans rfl; have hfz16_0 := blk_frozen BK186.out 0; have hfz16_1 := blk_frozen BK186.out 1; have hfz16_2 := blk_frozen BK186.out 2; have hfz16_3 := blk_frozen BK186.out 3; have hfz16_4 := blk_frozen BK186.out 4; have hfz16_5 := blk_frozen BK186.out 5) | (go_at_call 54; (with_reducible refine (impl_isLinePath.calls k a0_1 true _ A6.out).mono ?_); rintro e w' ⟨rfl, ⟨nd, rfl⟩⟩) | (go_at_call 55; (with_reducible refine (impl_within.calls a0_3 0 1000000000 false _ A8.out).mono ?_); rintro e w' ⟨rfl, ⟨nd, rfl⟩⟩))
     go_meet
     case rel => exact ⟨_, (true), (by first | rfl | (simp; done) | (simp [*]; done)), H', ⟨by first | omega | exact Nat.le_refl _⟩, ⟨by (with_reducible repeat (first | refine blk_drewN ?_ _ | refine blk_drew ?_ | refine blk_alloc ?_ _)); exact BK186.out⟩, ⟨by repeat (first | (with_reducible first | exact HB.out | apply below_alloc | apply pw_below_drewN | apply below_drew1 | refine below_set ?_ GE186.out) | exact HB.out)⟩⟩
   ·replace c7 := Bool.eq_false_iff.mpr c7
    subst c7
    have H1 : (impl_AskLine.j0 k true a0_0 a0_1 a0_2 a0_3 a0_4 a0_5) = some r := by rw [if_neg (show ¬ (false = true) by decide)] at H; exact H
    clear H
    have H := H1
    clear H1
    have H' := Aside0.mk H
    clear H
    have hcz17_0 : w3.cell? ⟨gb186, 0, none⟩ = some (.int .i64 a0_0) := (blk_cell BK186.out 0).trans rfl
    have hcz17_1 : w3.cell? ⟨gb186, 1, none⟩ = some (.string a0_1) := (blk_cell BK186.out 1).trans rfl
    have hcz17_2 : w3.cell? ⟨gb186, 2, none⟩ = some (.string a0_2) := (blk_cell BK186.out 2).trans rfl
    have hcz17_3 : w3.cell? ⟨gb186, 3, none⟩ = some (.int .i64 a0_3) := (blk_cell BK186.out 3).trans rfl
    have hcz17_4 : w3.cell? ⟨gb186, 4, none⟩ = some (.int .i64 a0_4) := (blk_cell BK186.out 4).trans rfl
    have hcz17_5 : w3.cell? ⟨gb186, 5, none⟩ = some (.string a0_5) := (blk_cell BK186.out 5).trans rfl
    have hfz17_0 := blk_frozen BK186.out 0
    have hfz17_1 := blk_frozen BK186.out 1
    have hfz17_2 := blk_frozen BK186.out 2
    have hfz17_3 := blk_frozen BK186.out 3
    have hfz17_4 := blk_frozen BK186.out 4
    have hfz17_5 := blk_frozen BK186.out 5
    go_wp2_with (first | ((with_reducible refine gate_callee (f := 53) rfl ?_); refine goesL_ (some 6) rfl rfl Tryd.func53 (by kernel_rfl) rfl #[.agg #[.int .i64 a0_0, .string a0_1, .string a0_2, .int .i64 a0_3, .int .i64 a0_4, .string a0_5]] rfl (by (try simp only [List.map_toArray, List.map_cons, List.map_nil]); first | done | rfl | (simp only [List.length_drop, List.length_take]; rfl)) ?_; (with_reducible refine (impl_AskOk.calls a0_0 a0_1 a0_2 a0_3 a0_4 a0_5 true _ A4.out).mono ?_); rintro e w18 ⟨rfl, hb⟩; refine ⟨_, rfl, ?_⟩; have n0_ := Aside0.mk (blk_below (g := gb186) (o := .cells #[.int .i64 a0_0, .string a0_1, .string a0_2, .int .i64 a0_3, .int .i64 a0_4, .string a0_5] 26 (0, 0)) (by (with_reducible repeat (first | refine blk_drewN ?_ _ | refine blk_drew ?_ | refine blk_alloc ?_ _)); exact BK186.out) hb); have n1_ := Aside0.mk (below_step (by repeat (first | (with_reducible first | exact HB.out | apply below_alloc | apply pw_below_drewN | apply below_drew1 | refine below_set ?_ GE186.out) | exact HB.out)) hb); clear BK186; clear HB; have BK186 := n0_; have HB := n1_; clear n0_ n1_; (try clear hb); (try clear hb2); (try clear hk); (try clear hi); have hcz19_0 : w18.cell? ⟨gb186, 0, none⟩ = some (.int .i64 a0_0) := (blk_cell BK186.out 0).trans rfl; have hcz19_1 : w18.cell? ⟨gb186, 1, none⟩ = some (.string a0_1) := (blk_cell BK186.out 1).trans rfl; have hcz19_2 : w18.cell? ⟨gb186, 2, none⟩ = some (.string a0_2) := (blk_cell BK186.out 2).trans rfl; have hcz19_3 : w18.cell? ⟨gb186, 3, none⟩ = some (.int .i64 a0_3) := (blk_cell BK186.out 3).trans rfl; have hcz19_4 : w18.cell? ⟨gb186, 4, none⟩ = some (.int .i64 a0_4) := (blk_cell BK186.out 4).trans rfl; have hcz19_5 : w18.cell? ⟨gb186, 5, none⟩ = some (.string a0_5) := (blk_cell BK186.out 5).trans rfl; have hfz19_0 := blk_frozen BK186.out 0; have hfz19_1 := blk_frozen BK186.out 1; have hfz19_2 := blk_frozen BK186.out 2; have hfz19_3 := blk_frozen BK186.out 3; have hfz19_4 := blk_frozen BK186.out 4; have hfz19_5 := blk_frozen BK186.out 5) | (go_at_call 54; (with_reducible refine (impl_isLinePath.calls k a0_1 false _ A6.out).mono ?_); rintro e w' ⟨rfl, ⟨nd, rfl⟩⟩))
    go_meet
    case rel => exact ⟨_, (true), (by first | rfl | (simp; done) | (simp [*]; done)), H', ⟨by first | omega | exact Nat.le_refl _⟩, ⟨by (with_reducible repeat (first | refine blk_drewN ?_ _ | refine blk_drew ?_ | refine blk_alloc ?_ _)); exact BK186.out⟩, ⟨by repeat (first | (with_reducible first | exact HB.out | apply below_alloc | apply pw_below_drewN | apply below_drew1 | refine below_set ?_ GE186.out) | exact HB.out)⟩⟩
  ·replace c5 := Bool.eq_false_iff.mpr c5
   subst c5
   have H1 : (impl_AskLine.j0 k true a0_0 a0_1 a0_2 a0_3 a0_4 a0_5) = some r := by rw [if_neg (show ¬ (false = true) by decide)] at H; exact H
   clear H
   have H := H1
   clear H1
   have H' := Aside0.mk H
   clear H
   have hcz20_0 : w3.cell? ⟨gb186, 0, none⟩ = some (.int .i64 a0_0) := (blk_cell BK186.out 0).trans rfl
   have hcz20_1 : w3.cell? ⟨gb186, 1, none⟩ = some (.string a0_1) := (blk_cell BK186.out 1).trans rfl
   have hcz20_2 : w3.cell? ⟨gb186, 2, none⟩ = some (.string a0_2) := (blk_cell BK186.out 2).trans rfl
   have hcz20_3 : w3.cell? ⟨gb186, 3, none⟩ = some (.int .i64 a0_3) := (blk_cell BK186.out 3).trans rfl
   have hcz20_4 : w3.cell? ⟨gb186, 4, none⟩ = some (.int .i64 a0_4) := (blk_cell BK186.out 4).trans rfl
   have hcz20_5 : w3.cell? ⟨gb186, 5, none⟩ = some (.string a0_5) := (blk_cell BK186.out 5).trans rfl
   have hfz20_0 := blk_frozen BK186.out 0
   have hfz20_1 := blk_frozen BK186.out 1
   have hfz20_2 := blk_frozen BK186.out 2
   have hfz20_3 := blk_frozen BK186.out 3
   have hfz20_4 := blk_frozen BK186.out 4
   have hfz20_5 := blk_frozen BK186.out 5
   go_wp2_with (first | ((with_reducible refine gate_callee (f := 53) rfl ?_); refine goesL_ (some 6) rfl rfl Tryd.func53 (by kernel_rfl) rfl #[.agg #[.int .i64 a0_0, .string a0_1, .string a0_2, .int .i64 a0_3, .int .i64 a0_4, .string a0_5]] rfl (by (try simp only [List.map_toArray, List.map_cons, List.map_nil]); first | done | rfl | (simp only [List.length_drop, List.length_take]; rfl)) ?_; (with_reducible refine (impl_AskOk.calls a0_0 a0_1 a0_2 a0_3 a0_4 a0_5 false _ A4.out).mono ?_); rintro e w21 ⟨rfl, hb⟩; refine ⟨_, rfl, ?_⟩; have n0_ := Aside0.mk (blk_below (g := gb186) (o := .cells #[.int .i64 a0_0, .string a0_1, .string a0_2, .int .i64 a0_3, .int .i64 a0_4, .string a0_5] 26 (0, 0)) (by (with_reducible repeat (first | refine blk_drewN ?_ _ | refine blk_drew ?_ | refine blk_alloc ?_ _)); exact BK186.out) hb); have n1_ := Aside0.mk (below_step (by repeat (first | (with_reducible first | exact HB.out | apply below_alloc | apply pw_below_drewN | apply below_drew1 | refine below_set ?_ GE186.out) | exact HB.out)) hb); clear BK186; clear HB; have BK186 := n0_; have HB := n1_; clear n0_ n1_; (try clear hb); (try clear hb2); (try clear hk); (try clear hi)))
   go_meet
   case rel => exact ⟨_, (true), (by first | rfl | (simp; done) | (simp [*]; done)), H', ⟨by first | omega | exact Nat.le_refl _⟩, ⟨by (with_reducible repeat (first | refine blk_drewN ?_ _ | refine blk_drew ?_ | refine blk_alloc ?_ _)); exact BK186.out⟩, ⟨by repeat (first | (with_reducible first | exact HB.out | apply below_alloc | apply pw_below_drewN | apply below_drew1 | refine below_set ?_ GE186.out) | exact HB.out)⟩⟩
 case rest =>
  clear HC2
  try clear c1
  try clear p2
  try clear c5
  try clear c7
  try clear c9
  try clear c13
  try clear hcz11_0
  try clear hcz11_1
  try clear hcz11_2
  try clear hcz11_3
  try clear hcz11_4
  try clear hcz11_5
  try clear hcz13_0
  try clear hcz13_1
  try clear hcz13_2
  try clear hcz13_3
  try clear hcz13_4
  try clear hcz13_5
  try clear hcz14_0
  try clear hcz14_1
  try clear hcz14_2
  try clear hcz14_3
  try clear hcz14_4
  try clear hcz14_5
  try clear hcz16_0
  try clear hcz16_1
  try clear hcz16_2
  try clear hcz16_3
  try clear hcz16_4
  try clear hcz16_5
  try clear hcz17_0
  try clear hcz17_1
  try clear hcz17_2
  try clear hcz17_3
  try clear hcz17_4
  try clear hcz17_5
  try clear hcz19_0
  try clear hcz19_1
  try clear hcz19_2
  try clear hcz19_3
  try clear hcz19_4
  try clear hcz19_5
  try clear hcz20_0
  try clear hcz20_1
  try clear hcz20_2
  try clear hcz20_3
  try clear hcz20_4
  try clear hcz20_5
  try clear hfz11_0
  try clear hfz11_1
  try clear hfz11_2
  try clear hfz11_3
  try clear hfz11_4
  try clear hfz11_5
  try clear hfz13_0
  try clear hfz13_1
  try clear hfz13_2
  try clear hfz13_3
  try clear hfz13_4
  try clear hfz13_5
  try clear hfz14_0
  try clear hfz14_1
  try clear hfz14_2
  try clear hfz14_3
  try clear hfz14_4
  try clear hfz14_5
  try clear hfz16_0
  try clear hfz16_1
  try clear hfz16_2
  try clear hfz16_3
  try clear hfz16_4
  try clear hfz16_5
  try clear hfz17_0
  try clear hfz17_1
  try clear hfz17_2
  try clear hfz17_3
  try clear hfz17_4
  try clear hfz17_5
  try clear hfz19_0
  try clear hfz19_1
  try clear hfz19_2
  try clear hfz19_3
  try clear hfz19_4
  try clear hfz19_5
  try clear hfz20_0
  try clear hfz20_1
  try clear hfz20_2
  try clear hfz20_3
  try clear hfz20_4
  try clear hfz20_5
  obtain ⟨kq, x25_1, rfl, HA, HJ1, BK186, HB⟩ := hcut
  cases kq with
  | zero => exact absurd HA.out (by simp [impl_AskLine.j0])
  | succ kj1 =>
   have H := HA.out
   clear HA
   simp only [impl_AskLine.j0] at H
   by_cases c22 : x25_1 = true
   ·subst c22
    have H1 : (some (⟨#[]⟩ : ByteArray)) = some r := by rw [if_pos rfl] at H; exact H
    clear H
    have H := H1
    clear H1
    obtain rfl := Option.some.inj H
    go_wp2
    go_ret
    exact ⟨by first | rfl | (simp [errW_none, errW_some] <;> rfl) | (simp [*, errW_none, errW_some] <;> rfl), by repeat (first | (with_reducible first | exact HB.out | apply below_alloc | apply pw_below_drewN | apply below_drew1 | refine below_set ?_ GE186.out) | exact HB.out)⟩
   ·replace c22 := Bool.eq_false_iff.mpr c22
    subst c22
    have H1 : ((impl_askWords.f).bind fun t191 => (if 0 ≤ a0_0 then (if a0_0 < (t191.length : Int) then (if (rdOf ByteArray.empty t191 a0_0).size + 1 ≤ 9223372036854775807 then (if ((rdOf ByteArray.empty t191 a0_0) ++ (⟨#[32]⟩ : ByteArray)).size + a0_1.size ≤ 9223372036854775807 then (if a0_0 = 5 then ((impl_isLinePath.f kj1 a0_2).bind fun t196 => (if t196 = true then (if 1 + a0_2.size ≤ 9223372036854775807 then (if (((rdOf ByteArray.empty t191 a0_0) ++ (⟨#[32]⟩ : ByteArray)) ++ a0_1).size + ((⟨#[32]⟩ : ByteArray) ++ a0_2).size ≤ 9223372036854775807 then (impl_AskLine.j1 kj1 ((((rdOf ByteArray.empty t191 a0_0) ++ (⟨#[32]⟩ : ByteArray)) ++ a0_1) ++ ((⟨#[32]⟩ : ByteArray) ++ a0_2)) 0 (⟨#[]⟩ : ByteArray) (⟨#[]⟩ : ByteArray) a0_3 a0_4 a0_5) else (none)) else (none)) else (some (⟨#[]⟩ : ByteArray)))) else (if a0_0 = 6 then ((impl_Decimal.f a0_3).bind fun t197 => (if 1 + t197.size ≤ 9223372036854775807 then (if ((⟨#[32]⟩ : ByteArray) ++ t197).size + 1 ≤ 9223372036854775807 then ((impl_Decimal.f a0_4).bind fun t198 => (if (((⟨#[32]⟩ : ByteArray) ++ t197) ++ (⟨#[32]⟩ : ByteArray)).size + t198.size ≤ 9223372036854775807 then (if (((rdOf ByteArray.empty t191 a0_0) ++ (⟨#[32]⟩ : ByteArray)) ++ a0_1).size + ((((⟨#[32]⟩ : ByteArray) ++ t197) ++ (⟨#[32]⟩ : ByteArray)) ++ t198).size ≤ 9223372036854775807 then (impl_AskLine.j1 kj1 ((((rdOf ByteArray.empty t191 a0_0) ++ (⟨#[32]⟩ : ByteArray)) ++ a0_1) ++ ((((⟨#[32]⟩ : ByteArray) ++ t197) ++ (⟨#[32]⟩ : ByteArray)) ++ t198)) 0 (⟨#[]⟩ : ByteArray) a0_2 0 0 a0_5) else (none)) else (none))) else (none)) else (none))) else (if a0_0 = 7 then ((impl_Decimal.f a0_3).bind fun t199 => (if 1 + t199.size ≤ 9223372036854775807 then (if ((⟨#[32]⟩ : ByteArray) ++ t199).size + 1 ≤ 9223372036854775807 then ((impl_hexOrDash.f a0_5).bind fun t200 => (if (((⟨#[32]⟩ : ByteArray) ++ t199) ++ (⟨#[32]⟩ : ByteArray)).size + t200.size ≤ 9223372036854775807 then (if (((rdOf ByteArray.empty t191 a0_0) ++ (⟨#[32]⟩ : ByteArray)) ++ a0_1).size + ((((⟨#[32]⟩ : ByteArray) ++ t199) ++ (⟨#[32]⟩ : ByteArray)) ++ t200).size ≤ 9223372036854775807 then (impl_AskLine.j1 kj1 ((((rdOf ByteArray.empty t191 a0_0) ++ (⟨#[32]⟩ : ByteArray)) ++ a0_1) ++ ((((⟨#[32]⟩ : ByteArray) ++ t199) ++ (⟨#[32]⟩ : ByteArray)) ++ t200)) 0 (⟨#[]⟩ : ByteArray) a0_2 0 a0_4 (⟨#[]⟩ : ByteArray)) else (none)) else (none))) else (none)) else (none))) else (if a0_0 = 8 then ((impl_Decimal.f a0_4).bind fun t201 => (if 1 + t201.size ≤ 9223372036854775807 then (if (((rdOf ByteArray.empty t191 a0_0) ++ (⟨#[32]⟩ : ByteArray)) ++ a0_1).size + ((⟨#[32]⟩ : ByteArray) ++ t201).size ≤ 9223372036854775807 then (impl_AskLine.j1 kj1 ((((rdOf ByteArray.empty t191 a0_0) ++ (⟨#[32]⟩ : ByteArray)) ++ a0_1) ++ ((⟨#[32]⟩ : ByteArray) ++ t201)) 0 (⟨#[]⟩ : ByteArray) a0_2 a0_3 0 a0_5) else (none)) else (none))) else (impl_AskLine.j1 kj1 (((rdOf ByteArray.empty t191 a0_0) ++ (⟨#[32]⟩ : ByteArray)) ++ a0_1) 0 (⟨#[]⟩ : ByteArray) a0_2 a0_3 a0_4 a0_5))))) else (none)) else (none)) else (none)) else (none))) = some r := by rw [if_neg (show ¬ (false = true) by decide)] at H; exact H
    clear H
    have H := H1
    clear H1
    replace H := Option.bind_eq_some_iff.mp H
    obtain ⟨t191, A230, H⟩ := H
    replace H : (if 0 ≤ a0_0 then (if a0_0 < (t191.length : Int) then (if (rdOf ByteArray.empty t191 a0_0).size + 1 ≤ 9223372036854775807 then (if ((rdOf ByteArray.empty t191 a0_0) ++ (⟨#[32]⟩ : ByteArray)).size + a0_1.size ≤ 9223372036854775807 then (if a0_0 = 5 then ((impl_isLinePath.f kj1 a0_2).bind fun t196 => (if t196 = true then (if 1 + a0_2.size ≤ 9223372036854775807 then (if (((rdOf ByteArray.empty t191 a0_0) ++ (⟨#[32]⟩ : ByteArray)) ++ a0_1).size + ((⟨#[32]⟩ : ByteArray) ++ a0_2).size ≤ 9223372036854775807 then (impl_AskLine.j1 kj1 ((((rdOf ByteArray.empty t191 a0_0) ++ (⟨#[32]⟩ : ByteArray)) ++ a0_1) ++ ((⟨#[32]⟩ : ByteArray) ++ a0_2)) 0 (⟨#[]⟩ : ByteArray) (⟨#[]⟩ : ByteArray) a0_3 a0_4 a0_5) else (none)) else (none)) else (some (⟨#[]⟩ : ByteArray)))) else (if a0_0 = 6 then ((impl_Decimal.f a0_3).bind fun t197 => (if 1 + t197.size ≤ 9223372036854775807 then (if ((⟨#[32]⟩ : ByteArray) ++ t197).size + 1 ≤ 9223372036854775807 then ((impl_Decimal.f a0_4).bind fun t198 => (if (((⟨#[32]⟩ : ByteArray) ++ t197) ++ (⟨#[32]⟩ : ByteArray)).size + t198.size ≤ 9223372036854775807 then (if (((rdOf ByteArray.empty t191 a0_0) ++ (⟨#[32]⟩ : ByteArray)) ++ a0_1).size + ((((⟨#[32]⟩ : ByteArray) ++ t197) ++ (⟨#[32]⟩ : ByteArray)) ++ t198).size ≤ 9223372036854775807 then (impl_AskLine.j1 kj1 ((((rdOf ByteArray.empty t191 a0_0) ++ (⟨#[32]⟩ : ByteArray)) ++ a0_1) ++ ((((⟨#[32]⟩ : ByteArray) ++ t197) ++ (⟨#[32]⟩ : ByteArray)) ++ t198)) 0 (⟨#[]⟩ : ByteArray) a0_2 0 0 a0_5) else (none)) else (none))) else (none)) else (none))) else (if a0_0 = 7 then ((impl_Decimal.f a0_3).bind fun t199 => (if 1 + t199.size ≤ 9223372036854775807 then (if ((⟨#[32]⟩ : ByteArray) ++ t199).size + 1 ≤ 9223372036854775807 then ((impl_hexOrDash.f a0_5).bind fun t200 => (if (((⟨#[32]⟩ : ByteArray) ++ t199) ++ (⟨#[32]⟩ : ByteArray)).size + t200.size ≤ 9223372036854775807 then (if (((rdOf ByteArray.empty t191 a0_0) ++ (⟨#[32]⟩ : ByteArray)) ++ a0_1).size + ((((⟨#[32]⟩ : ByteArray) ++ t199) ++ (⟨#[32]⟩ : ByteArray)) ++ t200).size ≤ 9223372036854775807 then (impl_AskLine.j1 kj1 ((((rdOf ByteArray.empty t191 a0_0) ++ (⟨#[32]⟩ : ByteArray)) ++ a0_1) ++ ((((⟨#[32]⟩ : ByteArray) ++ t199) ++ (⟨#[32]⟩ : ByteArray)) ++ t200)) 0 (⟨#[]⟩ : ByteArray) a0_2 0 a0_4 (⟨#[]⟩ : ByteArray)) else (none)) else (none))) else (none)) else (none))) else (if a0_0 = 8 then ((impl_Decimal.f a0_4).bind fun t201 => (if 1 + t201.size ≤ 9223372036854775807 then (if (((rdOf ByteArray.empty t191 a0_0) ++ (⟨#[32]⟩ : ByteArray)) ++ a0_1).size + ((⟨#[32]⟩ : ByteArray) ++ t201).size ≤ 9223372036854775807 then (impl_AskLine.j1 kj1 ((((rdOf ByteArray.empty t191 a0_0) ++ (⟨#[32]⟩ : ByteArray)) ++ a0_1) ++ ((⟨#[32]⟩ : ByteArray) ++ t201)) 0 (⟨#[]⟩ : ByteArray) a0_2 a0_3 0 a0_5) else (none)) else (none))) else (impl_AskLine.j1 kj1 (((rdOf ByteArray.empty t191 a0_0) ++ (⟨#[32]⟩ : ByteArray)) ++ a0_1) 0 (⟨#[]⟩ : ByteArray) a0_2 a0_3 a0_4 a0_5))))) else (none)) else (none)) else (none)) else (none)) = some r := H
    have A23 := Aside0.mk A230
    clear A230
    by_cases c24 : 0 ≤ a0_0
    ·rw [if_pos c24] at H
     have c24b0 : decide (0 ≤ a0_0) = true := decide_eq_true c24
     clear c24
     by_cases c25 : a0_0 < (t191.length : Int)
     ·rw [if_pos c25] at H
      have c25b0 : decide (a0_0 < (t191.length : Int)) = true := decide_eq_true c25
      clear c25
      by_cases c26 : (rdOf ByteArray.empty t191 a0_0).size + 1 ≤ 9223372036854775807
      ·rw [if_pos c26] at H
       have c26b0 := eq_true c26
       have c26b1 : decide ((rdOf ByteArray.empty t191 a0_0).size + 1 ≤ 9223372036854775807) = true := decide_eq_true c26
       try have c26b2 : (9223372036854775807 < (rdOf ByteArray.empty t191 a0_0).size + 1) = False := eq_false (Nat.not_lt.2 c26)
       by_cases c27 : ((rdOf ByteArray.empty t191 a0_0) ++ (⟨#[32]⟩ : ByteArray)).size + a0_1.size ≤ 9223372036854775807
       ·rw [if_pos c27] at H
        have c27b0 := eq_true c27
        have c27b1 : decide (((rdOf ByteArray.empty t191 a0_0) ++ (⟨#[32]⟩ : ByteArray)).size + a0_1.size ≤ 9223372036854775807) = true := decide_eq_true c27
        try (have c27b2 := eq_false (Nat.not_lt.2 c27); simp only [ByteArray.size_append, show (⟨#[32]⟩ : ByteArray).size = 1 from rfl] at c27b2)
        have HC28 := Aside0.mk H
        clear H
        try go_wp2
        have n0_ := Aside0.mk (blk_drew BK186.out)
        have n1_ := Aside0.mk (below_drew1 HB.out)
        clear BK186
        clear HB
        have BK186 := n0_
        have HB := n1_
        clear n0_ n1_
        refine start_ (n := 10) (S := fun w' => w'.cell? ⟨gb186, 0, none⟩ = some (.int .i64 a0_0) ∧ w'.cell? ⟨gb186, 1, none⟩ = some (.string a0_1) ∧ w'.cell? ⟨gb186, 2, none⟩ = some (.string a0_2) ∧ w'.cell? ⟨gb186, 3, none⟩ = some (.int .i64 a0_3) ∧ w'.cell? ⟨gb186, 4, none⟩ = some (.int .i64 a0_4) ∧ w'.cell? ⟨gb186, 5, none⟩ = some (.string a0_5)) (ds := []) (msk 10 0) (by kernel_rfl) rfl rfl ⟨(blk_cell BK186.out 0).trans rfl, (blk_cell BK186.out 1).trans rfl, (blk_cell BK186.out 2).trans rfl, (blk_cell BK186.out 3).trans rfl, (blk_cell BK186.out 4).trans rfl, (blk_cell BK186.out 5).trans rfl⟩ (fun hHeld => ?_); refine with_tabW impl_AskLine.tab3 impl_AskLine.bits3 (fun HT_ HW_ => ?_)
        generalize wc.drew = w29 at BK186 HB hHeld ⊢
        refine pure_ (i := 1) (N := some 27) (v := ?_) (a' := ?_) #[false, true, false, false, false, false, false, false, false, false] rfl rfl (any_of HT_.out (by kernel_rfl)) (fun _ _ _ h => h) (Or.inl ⟨by rfl, ?_⟩) ?_ ?_
        rotate_left
        ·intro w'
         go_simp
         with_reducible rfl
        rotate_left
        ·simp only [Act.put, List.setIfInBounds_toArray, List.set_cons_zero, List.set_cons_succ, i64_w, i32_w]
         rfl
        refine pure_ (i := 6) (N := some 32) (v := ?_) (a' := ?_) #[false, true, false, false, false, false, true, false, false, false] rfl rfl (any_of HT_.out (by kernel_rfl)) (fun _ _ _ h => h) (Or.inl ⟨by rfl, ?_⟩) ?_ ?_
        rotate_left
        ·intro w'
         go_simp
         with_reducible rfl
        rotate_left
        ·simp only [Act.put, List.setIfInBounds_toArray, List.set_cons_zero, List.set_cons_succ, i64_w, i32_w]
         rfl
        refine take_ (i := 2) (N := some 28) (v := ?_) (a' := ?_) #[false, true, true, false, false, false, true, false, false, false] rfl rfl (take_ofW HT_.out HW_.out (by kernel_rfl)) (fun _ _ _ h => h) (Or.inl ⟨by rfl, ?_⟩) hHeld ?_ ?_
        rotate_left
        ·rintro w' ⟨s0, s1, s2, s3, s4, s5⟩
         go_simp
         with_reducible rfl
        rotate_left
        ·simp only [Act.put, List.setIfInBounds_toArray, List.set_cons_zero, List.set_cons_succ, i64_w, i32_w]
         rfl
        refine take_ (i := 7) (N := some 33) (v := ?_) (a' := ?_) #[false, true, true, false, false, false, true, true, false, false] rfl rfl (take_ofW HT_.out HW_.out (by kernel_rfl)) (fun _ _ _ h => h) (Or.inl ⟨by rfl, ?_⟩) hHeld ?_ ?_
        rotate_left
        ·rintro w' ⟨s0, s1, s2, s3, s4, s5⟩
         go_simp
         with_reducible rfl
        rotate_left
        ·simp only [Act.put, List.setIfInBounds_toArray, List.set_cons_zero, List.set_cons_succ, i64_w, i32_w]
         rfl
        refine one_ (i := 0) (N := some 26) #[true, true, true, false, false, false, true, true, false, false] rfl rfl (one_of HT_.out (by kernel_rfl)) (by decide) (fun K hK => ?_)
        refine goes_ Tryd.func56 (by kernel_rfl) rfl #[] (by rfl) rfl rfl (by (try simp only [List.map_toArray, List.map_cons, List.map_nil]); first | done | rfl | (simp only [List.length_drop, List.length_take]; rfl)) ?_
        with_reducible refine (impl_askWords.calls  t191 _ A23.out).mono ?_
        rintro e w30 ⟨v192, rfl, ho0, hb⟩
        refine ⟨_, rfl, ?_⟩
        have n0_ := Aside0.mk (Kd.R_lower ho0 (below_size (by repeat (first | (with_reducible first | exact HB.out | apply below_alloc | apply pw_below_drewN | apply below_drew1 | refine below_set ?_ GE186.out) | exact HB.out))))
        have n1_ := Aside0.mk (blk_below (g := gb186) (o := .cells #[.int .i64 a0_0, .string a0_1, .string a0_2, .int .i64 a0_3, .int .i64 a0_4, .string a0_5] 26 (0, 0)) (by (with_reducible repeat (first | refine blk_drewN ?_ _ | refine blk_drew ?_ | refine blk_alloc ?_ _)); exact BK186.out) hb)
        have n2_ := Aside0.mk (below_step (by repeat (first | (with_reducible first | exact HB.out | apply below_alloc | apply pw_below_drewN | apply below_drew1 | refine below_set ?_ GE186.out) | exact HB.out)) hb)
        clear BK186
        clear HB
        have HO193 := n0_
        have BK186 := n1_
        have HB := n2_
        clear n0_ n1_ n2_
        (try clear hb)
        (try clear hb2)
        (try clear hk)
        (try clear hi)
        (try clear ho0)
        obtain ⟨Ao31, co31, eo31⟩ := Kd.R_slice HO193.out
        (first | subst eo31 | (injection eo31 with f1_ f2_ f3_; have f4_ := f1_.symm; have f5_ := f3_.symm; clear f1_ f2_ f3_; subst f4_; subst f5_))
        have p194 : 0 ≤ (a0_0 : Int) := of_decide_eq_true (by first | (with_reducible assumption) | assumption)
        have q194 : a0_0 < (t191.length : Int) := of_decide_eq_true (by first | (with_reducible assumption) | assumption)
        obtain ⟨ad194, e194, hx194_0⟩ := Kd.at_string (Kd.R_reads' HO193.out).2.2 a0_0 p194 q194
        cases e194
        replace p194 := eq_true p194
        replace q194 := eq_true q194
        refine hK.out _ _ ⟨(blk_cell BK186.out 0).trans rfl, (blk_cell BK186.out 1).trans rfl, (blk_cell BK186.out 2).trans rfl, (blk_cell BK186.out 3).trans rfl, (blk_cell BK186.out 4).trans rfl, (blk_cell BK186.out 5).trans rfl⟩ (fun hHeld => ?_)
        clear hK K
        refine norm_ (a' := ?_) ?_ ?_
        rotate_left
        ·show Act.put _ (some 26) _ = _
         simp only [Act.put, List.setIfInBounds_toArray, List.set_cons_zero, List.set_cons_succ, i64_w, i32_w]
         rfl
        refine pure_ (i := 3) (N := some 29) (v := ?_) (a' := ?_) #[true, true, true, true, false, false, true, true, false, false] rfl rfl (any_of HT_.out (by kernel_rfl)) (fun _ _ _ h => h) (Or.inl ⟨by rfl, ?_⟩) ?_ ?_
        rotate_left
        ·intro w'
         go_simp
         with_reducible rfl
        rotate_left
        ·simp only [Act.put, List.setIfInBounds_toArray, List.set_cons_zero, List.set_cons_succ, i64_w, i32_w]
         rfl
        refine one_ (i := 4) (N := some 30) #[true, true, true, true, true, false, true, true, false, false] rfl rfl (one_of HT_.out (by kernel_rfl)) (by decide) (fun K hK => ?_)
        refine value_ (w1 := ?_) (v := ?_) (by rfl) rfl ?_ ?_
        rotate_left 2
        ·go_simp
         constructor
         ·rfl
         ·rfl
        refine hK.out _ _ ⟨hHeld.1, hHeld.2.1, hHeld.2.2.1, hHeld.2.2.2.1, hHeld.2.2.2.2.1, hHeld.2.2.2.2.2⟩ (fun hHeld => ?_)
        clear hK K
        refine norm_ (a' := ?_) ?_ ?_
        rotate_left
        ·show Act.put _ (some 30) _ = _
         simp only [Act.put, List.setIfInBounds_toArray, List.set_cons_zero, List.set_cons_succ, i64_w, i32_w]
         rfl
        refine pure_ (i := 5) (N := some 31) (v := ?_) (a' := ?_) (msk 10 8) rfl rfl (any_of HT_.out (by kernel_rfl)) (fun _ _ _ h => h) (Or.inl ⟨by rfl, ?_⟩) ?_ ?_
        rotate_left
        ·intro w'
         go_simp
         with_reducible rfl
        rotate_left
        ·simp only [Act.put, List.setIfInBounds_toArray, List.set_cons_zero, List.set_cons_succ, i64_w, i32_w]
         rfl
        refine pure_ (i := 8) (N := some 34) (v := ?_) (a' := ?_) (msk 10 9) rfl rfl (any_of HT_.out (by kernel_rfl)) (fun _ _ _ h => h) (Or.inl ⟨by rfl, ?_⟩) ?_ ?_
        rotate_left
        ·intro w'
         go_simp
         with_reducible rfl
        rotate_left
        ·simp only [Act.put, List.setIfInBounds_toArray, List.set_cons_zero, List.set_cons_succ, i64_w, i32_w]
         rfl
        refine pure_ (i := 9) (N := some 3) (v := ?_) (a' := ?_) (msk 10 10) rfl rfl (any_of HT_.out (by kernel_rfl)) (fun _ _ _ h => h) (Or.inl ⟨by rfl, ?_⟩) ?_ ?_
        rotate_left
        ·intro w'
         go_simp
         with_reducible rfl
        rotate_left
        ·simp only [Act.put, List.setIfInBounds_toArray, List.set_cons_zero, List.set_cons_succ, i64_w, i32_w]
         rfl
        refine done_ (done_of HT_.out (by kernel_rfl)) ?_
        have hcz32_0 : w30.cell? ⟨gb186, 0, none⟩ = some (.int .i64 a0_0) := (blk_cell BK186.out 0).trans rfl
        have hcz32_1 : w30.cell? ⟨gb186, 1, none⟩ = some (.string a0_1) := (blk_cell BK186.out 1).trans rfl
        have hcz32_2 : w30.cell? ⟨gb186, 2, none⟩ = some (.string a0_2) := (blk_cell BK186.out 2).trans rfl
        have hcz32_3 : w30.cell? ⟨gb186, 3, none⟩ = some (.int .i64 a0_3) := (blk_cell BK186.out 3).trans rfl
        have hcz32_4 : w30.cell? ⟨gb186, 4, none⟩ = some (.int .i64 a0_4) := (blk_cell BK186.out 4).trans rfl
        have hcz32_5 : w30.cell? ⟨gb186, 5, none⟩ = some (.string a0_5) := (blk_cell BK186.out 5).trans rfl
        have hfz32_0 := blk_frozen BK186.out 0
        have hfz32_1 := blk_frozen BK186.out 1
        have hfz32_2 := blk_frozen BK186.out 2
        have hfz32_3 := blk_frozen BK186.out 3
        have hfz32_4 := blk_frozen BK186.out 4
        have hfz32_5 := blk_frozen BK186.out 5
        go_upto_block 0 with (first | ((with_reducible refine gate_dst (N := 4) rfl ?_); refine box_event ?hg (N := 4) ?hd (cs := #[.int .i64 0, .string (⟨#[]⟩ : ByteArray), .string (⟨#[]⟩ : ByteArray), .int .i64 0, .int .i64 0, .string (⟨#[]⟩ : ByteArray)]) (t := 26) ?hr ?_; (case hd => rfl); (case hg => rfl); (case hr => first | (go_simp; done) | (go_simp; rfl)); intro gb195 hg w33 hbox hb; have n0_ := Aside0.mk (Kd.R_below (by (with_reducible repeat (first | apply Kd.R_alloc | apply Kd.R_drewN | apply Kd.R_drew)); exact HO193.out) hb); have n1_ := Aside0.mk (blk_below (g := gb186) (o := .cells #[.int .i64 a0_0, .string a0_1, .string a0_2, .int .i64 a0_3, .int .i64 a0_4, .string a0_5] 26 (0, 0)) (by (with_reducible repeat (first | refine blk_drewN ?_ _ | refine blk_drew ?_ | refine blk_alloc ?_ _)); exact BK186.out) hb); have n2_ := Aside0.mk (below_step (by repeat (first | (with_reducible first | exact HB.out | apply below_alloc | apply pw_below_drewN | apply below_drew1 | refine below_set ?_ GE186.out) | exact HB.out)) hb); have n3_ := Aside0.mk (hbox); have n4_ := Aside0.mk ((by rw [hg]; exact (below_size (by repeat (first | (with_reducible first | exact HB.out | apply below_alloc | apply pw_below_drewN | apply below_drew1 | refine below_set ?_ GE186.out) | exact HB.out))) : w.heap.size ≤ gb195)); have n5_ := Aside0.mk ((by rw [hg]; exact (below_size (by repeat (first | (with_reducible first | exact HB.out | apply below_alloc | apply pw_below_drewN | apply below_drew1 | refine below_set ?_ GE186.out) | exact HB.out))) : w.heap.size ≤ gb195)); have n6_ := Aside0.mk ((by rw [hg]; exact Nat.ne_of_lt (blk_lt (g := gb186) (o := .cells #[.int .i64 a0_0, .string a0_1, .string a0_2, .int .i64 a0_3, .int .i64 a0_4, .string a0_5] 26 (0, 0)) (by (with_reducible repeat (first | refine blk_drewN ?_ _ | refine blk_drew ?_ | refine blk_alloc ?_ _)); exact BK186.out)) : gb186 ≠ gb195)); have n7_ := Aside0.mk ((by rw [hg]; exact Nat.ne_of_gt (blk_lt (g := gb186) (o := .cells #[.int .i64 a0_0, .string a0_1, .string a0_2, .int .i64 a0_3, .int .i64 a0_4, .string a0_5] 26 (0, 0)) (by (with_reducible repeat (first | refine blk_drewN ?_ _ | refine blk_drew ?_ | refine blk_alloc ?_ _)); exact BK186.out)) : gb195 ≠ gb186)); clear HO193; clear BK186; clear HB; have HO193 := n0_; have BK186 := n1_; have HB := n2_; have BK195 := n3_; have GW195 := n4_; have GE195 := n5_; have NB186_195 := n6_; have NB195_186 := n7_; clear n0_ n1_ n2_ n3_ n4_ n5_ n6_ n7_; clear hb hbox hg; have hnb34 := NB195_186.out; have hnc34 := NB186_195.out; have hcz35_0 : w33.cell? ⟨gb195, 0, none⟩ = some (.int .i64 0) := (blk_cell BK195.out 0).trans rfl; have hcz35_1 : w33.cell? ⟨gb195, 1, none⟩ = some (.string (⟨#[]⟩ : ByteArray)) := (blk_cell BK195.out 1).trans rfl; have hcz35_2 : w33.cell? ⟨gb195, 2, none⟩ = some (.string (⟨#[]⟩ : ByteArray)) := (blk_cell BK195.out 2).trans rfl; have hcz35_3 : w33.cell? ⟨gb195, 3, none⟩ = some (.int .i64 0) := (blk_cell BK195.out 3).trans rfl; have hcz35_4 : w33.cell? ⟨gb195, 4, none⟩ = some (.int .i64 0) := (blk_cell BK195.out 4).trans rfl; have hcz35_5 : w33.cell? ⟨gb195, 5, none⟩ = some (.string (⟨#[]⟩ : ByteArray)) := (blk_cell BK195.out 5).trans rfl; have hfz35_0 := blk_frozen BK195.out 0; have hfz35_1 := blk_frozen BK195.out 1; have hfz35_2 := blk_frozen BK195.out 2; have hfz35_3 := blk_frozen BK195.out 3; have hfz35_4 := blk_frozen BK195.out 4; have hfz35_5 := blk_frozen BK195.out 5; have hcz36_0 : w33.cell? ⟨gb186, 0, none⟩ = some (.int .i64 a0_0) := (blk_cell BK186.out 0).trans rfl; have hcz36_1 : w33.cell? ⟨gb186, 1, none⟩ = some (.string a0_1) := (blk_cell BK186.out 1).trans rfl; have hcz36_2 : w33.cell? ⟨gb186, 2, none⟩ = some (.string a0_2) := (blk_cell BK186.out 2).trans rfl; have hcz36_3 : w33.cell? ⟨gb186, 3, none⟩ = some (.int .i64 a0_3) := (blk_cell BK186.out 3).trans rfl; have hcz36_4 : w33.cell? ⟨gb186, 4, none⟩ = some (.int .i64 a0_4) := (blk_cell BK186.out 4).trans rfl; have hcz36_5 : w33.cell? ⟨gb186, 5, none⟩ = some (.string a0_5) := (blk_cell BK186.out 5).trans rfl; have hfz36_0 := blk_frozen BK186.out 0; have hfz36_1 := blk_frozen BK186.out 1; have hfz36_2 := blk_frozen BK186.out 2; have hfz36_3 := blk_frozen BK186.out 3; have hfz36_4 := blk_frozen BK186.out 4; have hfz36_5 := blk_frozen BK186.out 5))
        (try simp only [Act.put, List.setIfInBounds_toArray, List.set_cons_zero, List.set_cons_succ])
        go_cut [3] (fun v3 wc => ∃ (kq : Nat) (x3_27 : ByteArray) (x196002_27 : ByteArray) (x196003_27 : Int) (x196004_27 : Int) (x196005_27 : ByteArray), v3 = .string x3_27 ∧ Aside0 (impl_AskLine.j1 kq x3_27 0 (⟨#[]⟩ : ByteArray) x196002_27 x196003_27 x196004_27 x196005_27 = some r) ∧ Aside0 (kq ≤ kj1) ∧ Aside0 (wc.heap[gb186]? = some (.cells #[.int .i64 a0_0, .string a0_1, .string a0_2, .int .i64 a0_3, .int .i64 a0_4, .string a0_5] 26 (0, 0))) ∧ Aside0 (wc.heap[gb195]? = some (.cells #[.int .i64 0, .string (⟨#[]⟩ : ByteArray), .string x196002_27, .int .i64 x196003_27, .int .i64 x196004_27, .string x196005_27] 26 (0, 0))) ∧ Aside0 (Below w.heap.size w wc))
        case first =>
         have H := HC28.out
         clear HC28
         by_cases c37 : a0_0 = 5
         ·rw [if_pos c37] at H
          have c37b0 : (a0_0 == 5) = true := beq_iff_eq.mpr c37
          have c37b1 : (a0_0 != 5) = false := bne_eq_false_iff_eq.mpr c37
          clear c37
          (first | rw [c37b0] | (simp only [i64_w, i32_w]; rw [c37b0]) | skip)
          replace H := Option.bind_eq_some_iff.mp H
          obtain ⟨t196, A380, H⟩ := H
          replace H : (if t196 = true then (if 1 + a0_2.size ≤ 9223372036854775807 then (if (((rdOf ByteArray.empty t191 a0_0) ++ (⟨#[32]⟩ : ByteArray)) ++ a0_1).size + ((⟨#[32]⟩ : ByteArray) ++ a0_2).size ≤ 9223372036854775807 then (impl_AskLine.j1 kj1 ((((rdOf ByteArray.empty t191 a0_0) ++ (⟨#[32]⟩ : ByteArray)) ++ a0_1) ++ ((⟨#[32]⟩ : ByteArray) ++ a0_2)) 0 (⟨#[]⟩ : ByteArray) (⟨#[]⟩ : ByteArray) a0_3 a0_4 a0_5) else (none)) else (none)) else (some (⟨#[]⟩ : ByteArray))) = some r := H
          have A38 := Aside0.mk A380
          clear A380
          by_cases c39 : t196 = true
          ·subst c39
           have H1 : (if 1 + a0_2.size ≤ 9223372036854775807 then (if (((rdOf ByteArray.empty t191 a0_0) ++ (⟨#[32]⟩ : ByteArray)) ++ a0_1).size + ((⟨#[32]⟩ : ByteArray) ++ a0_2).size ≤ 9223372036854775807 then (impl_AskLine.j1 kj1 ((((rdOf ByteArray.empty t191 a0_0) ++ (⟨#[32]⟩ : ByteArray)) ++ a0_1) ++ ((⟨#[32]⟩ : ByteArray) ++ a0_2)) 0 (⟨#[]⟩ : ByteArray) (⟨#[]⟩ : ByteArray) a0_3 a0_4 a0_5) else (none)) else (none)) = some r := by rw [if_pos rfl] at H; exact H
           clear H
           have H := H1
           clear H1
           by_cases c40 : 1 + a0_2.size ≤ 9223372036854775807
           ·rw [if_pos c40] at H
            have c40b0 := eq_true c40
            have c40b1 : decide (1 + a0_2.size ≤ 9223372036854775807) = true := decide_eq_true c40
            try have c40b2 : (9223372036854775807 < 1 + a0_2.size) = False := eq_false (Nat.not_lt.2 c40)
            by_cases c41 : (((rdOf ByteArray.empty t191 a0_0) ++ (⟨#[32]⟩ : ByteArray)) ++ a0_1).size + ((⟨#[32]⟩ : ByteArray) ++ a0_2).size ≤ 9223372036854775807
            ·rw [if_pos c41] at H
             have c41b0 := eq_true c41
             have c41b1 : decide ((((rdOf ByteArray.empty t191 a0_0) ++ (⟨#[32]⟩ : ByteArray)) ++ a0_1).size + ((⟨#[32]⟩ : ByteArray) ++ a0_2).size ≤ 9223372036854775807) = true := decide_eq_true c41
             try (have c41b2 := eq_false (Nat.not_lt.2 c41); simp only [ByteArray.size_append, show (⟨#[32]⟩ : ByteArray).size = 1 from rfl] at c41b2)
             have H' := Aside0.mk H
             clear H
             have hnb42 := NB186_195.out
             have hnc42 := NB195_186.out
             have hcz43_0 : w33.cell? ⟨gb186, 0, none⟩ = some (.int .i64 a0_0) := (blk_cell BK186.out 0).trans rfl
             have hcz43_1 : w33.cell? ⟨gb186, 1, none⟩ = some (.string a0_1) := (blk_cell BK186.out 1).trans rfl
             have hcz43_2 : w33.cell? ⟨gb186, 2, none⟩ = some (.string a0_2) := (blk_cell BK186.out 2).trans rfl
             have hcz43_3 : w33.cell? ⟨gb186, 3, none⟩ = some (.int .i64 a0_3) := (blk_cell BK186.out 3).trans rfl
             have hcz43_4 : w33.cell? ⟨gb186, 4, none⟩ = some (.int .i64 a0_4) := (blk_cell BK186.out 4).trans rfl
             have hcz43_5 : w33.cell? ⟨gb186, 5, none⟩ = some (.string a0_5) := (blk_cell BK186.out 5).trans rfl
             have hfz43_0 := blk_frozen BK186.out 0
             have hfz43_1 := blk_frozen BK186.out 1
             have hfz43_2 := blk_frozen BK186.out 2
             have hfz43_3 := blk_frozen BK186.out 3
             have hfz43_4 := blk_frozen BK186.out 4
             have hfz43_5 := blk_frozen BK186.out 5
             go_wp2_with (first | ((with_reducible refine gate_callee (f := 54) rfl ?_); refine goesL_ (some 44) rfl rfl Tryd.func54 (by kernel_rfl) rfl #[.string a0_2] rfl (by (try simp only [List.map_toArray, List.map_cons, List.map_nil]); first | done | rfl | (simp only [List.length_drop, List.length_take]; rfl)) ?_; (with_reducible refine (impl_isLinePath.calls kj1 a0_2 true _ A38.out).mono ?_); rintro e w' ⟨rfl, ⟨nd, rfl⟩⟩; refine ⟨_, rfl, ?_⟩; have hcz44_0 : w33.cell? ⟨gb195, 0, none⟩ = some (.int .i64 0) := (blk_cell BK195.out 0).trans rfl; have hcz44_1 : w33.cell? ⟨gb195, 1, none⟩ = some (.string (⟨#[]⟩ : ByteArray)) := (blk_cell BK195.out 1).trans rfl; have hcz44_2 : w33.cell? ⟨gb195, 2, none⟩ = some (.string (⟨#[]⟩ : ByteArray)) := (blk_cell BK195.out 2).trans rfl; have hcz44_3 : w33.cell? ⟨gb195, 3, none⟩ = some (.int .i64 0) := (blk_cell BK195.out 3).trans rfl; have hcz44_4 : w33.cell? ⟨gb195, 4, none⟩ = some (.int .i64 0) := (blk_cell BK195.out 4).trans rfl; have hcz44_5 : w33.cell? ⟨gb195, 5, none⟩ = some (.string (⟨#[]⟩ : ByteArray)) := (blk_cell BK195.out 5).trans rfl; have hfz44_0 := blk_frozen BK195.out 0; have hfz44_1 := blk_frozen BK195.out 1; have hfz44_2 := blk_frozen BK195.out 2; have hfz44_3 := blk_frozen BK195.out 3; have hfz44_4 := blk_frozen BK195.out 4; have hfz44_5 := blk_frozen BK195.out 5))
             go_meet
             case rel => exact ⟨_, ((((rdOf ByteArray.empty t191 a0_0) ++ (⟨#[32]⟩ : ByteArray)) ++ a0_1) ++ ((⟨#[32]⟩ : ByteArray) ++ a0_2)), ((⟨#[]⟩ : ByteArray)), (a0_3), (a0_4), (a0_5), (by first | rfl | (simp; done) | (simp [*]; done)), H', ⟨by have := HJ1.out; first | omega | exact Nat.le_refl _⟩, ⟨by (with_reducible repeat (first | refine blk_drewN ?_ _ | refine blk_drew ?_ | refine blk_alloc ?_ _)); refine blk_far ?_ NB186_195.out _; (with_reducible repeat (first | refine blk_drewN ?_ _ | refine blk_drew ?_ | refine blk_alloc ?_ _)); refine blk_far ?_ NB186_195.out _; (with_reducible repeat (first | refine blk_drewN ?_ _ | refine blk_drew ?_ | refine blk_alloc ?_ _)); refine blk_far ?_ NB186_195.out _; (with_reducible repeat (first | refine blk_drewN ?_ _ | refine blk_drew ?_ | refine blk_alloc ?_ _)); refine blk_far ?_ NB186_195.out _; (with_reducible repeat (first | refine blk_drewN ?_ _ | refine blk_drew ?_ | refine blk_alloc ?_ _)); refine blk_far ?_ NB186_195.out _; (with_reducible repeat (first | refine blk_drewN ?_ _ | refine blk_drew ?_ | refine blk_alloc ?_ _)); refine blk_far ?_ NB186_195.out _; (with_reducible repeat (first | refine blk_drewN ?_ _ | refine blk_drew ?_ | refine blk_alloc ?_ _)); refine blk_far ?_ NB186_195.out _; (with_reducible repeat (first | refine blk_drewN ?_ _ | refine blk_drew ?_ | refine blk_alloc ?_ _)); refine blk_far ?_ NB186_195.out _; (with_reducible repeat (first | refine blk_drewN ?_ _ | refine blk_drew ?_ | refine blk_alloc ?_ _)); refine blk_far ?_ NB186_195.out _; (with_reducible repeat (first | refine blk_drewN ?_ _ | refine blk_drew ?_ | refine blk_alloc ?_ _)); exact BK186.out⟩, ⟨by (with_reducible repeat (first | refine blk_drewN ?_ _ | refine blk_drew ?_ | refine blk_alloc ?_ _)); refine blk_put (cs := #[.int .i64 0, .string (⟨#[]⟩ : ByteArray), .string a0_2, .int .i64 a0_3, .int .i64 a0_4, .string a0_5]) ?_ 2 _ rfl; (with_reducible repeat (first | refine blk_drewN ?_ _ | refine blk_drew ?_ | refine blk_alloc ?_ _)); refine blk_put (cs := #[.int .i64 0, .string a0_1, .string a0_2, .int .i64 a0_3, .int .i64 a0_4, .string a0_5]) ?_ 1 _ rfl; (with_reducible repeat (first | refine blk_drewN ?_ _ | refine blk_drew ?_ | refine blk_alloc ?_ _)); refine blk_put (cs := #[.int .i64 a0_0, .string a0_1, .string a0_2, .int .i64 a0_3, .int .i64 a0_4, .string a0_5]) ?_ 0 _ rfl; (with_reducible repeat (first | refine blk_drewN ?_ _ | refine blk_drew ?_ | refine blk_alloc ?_ _)); refine blk_put (cs := #[.int .i64 a0_0, .string a0_1, .string a0_2, .int .i64 a0_3, .int .i64 a0_4, .string (⟨#[]⟩ : ByteArray)]) ?_ 5 _ rfl; (with_reducible repeat (first | refine blk_drewN ?_ _ | refine blk_drew ?_ | refine blk_alloc ?_ _)); refine blk_put (cs := #[.int .i64 a0_0, .string a0_1, .string a0_2, .int .i64 a0_3, .int .i64 0, .string (⟨#[]⟩ : ByteArray)]) ?_ 4 _ rfl; (with_reducible repeat (first | refine blk_drewN ?_ _ | refine blk_drew ?_ | refine blk_alloc ?_ _)); refine blk_put (cs := #[.int .i64 a0_0, .string a0_1, .string a0_2, .int .i64 0, .int .i64 0, .string (⟨#[]⟩ : ByteArray)]) ?_ 3 _ rfl; (with_reducible repeat (first | refine blk_drewN ?_ _ | refine blk_drew ?_ | refine blk_alloc ?_ _)); refine blk_put (cs := #[.int .i64 a0_0, .string a0_1, .string (⟨#[]⟩ : ByteArray), .int .i64 0, .int .i64 0, .string (⟨#[]⟩ : ByteArray)]) ?_ 2 _ rfl; (with_reducible repeat (first | refine blk_drewN ?_ _ | refine blk_drew ?_ | refine blk_alloc ?_ _)); refine blk_put (cs := #[.int .i64 a0_0, .string (⟨#[]⟩ : ByteArray), .string (⟨#[]⟩ : ByteArray), .int .i64 0, .int .i64 0, .string (⟨#[]⟩ : ByteArray)]) ?_ 1 _ rfl; (with_reducible repeat (first | refine blk_drewN ?_ _ | refine blk_drew ?_ | refine blk_alloc ?_ _)); refine blk_put (cs := #[.int .i64 0, .string (⟨#[]⟩ : ByteArray), .string (⟨#[]⟩ : ByteArray), .int .i64 0, .int .i64 0, .string (⟨#[]⟩ : ByteArray)]) ?_ 0 _ rfl; (with_reducible repeat (first | refine blk_drewN ?_ _ | refine blk_drew ?_ | refine blk_alloc ?_ _)); exact BK195.out⟩, ⟨by repeat (first | (with_reducible first | exact HB.out | apply below_alloc | apply pw_below_drewN | apply below_drew1 | refine below_set ?_ GE186.out | refine below_set ?_ GE195.out) | exact HB.out)⟩⟩
            ·rw [if_neg c41] at H
             exact absurd H (by simp)
           ·rw [if_neg c40] at H
            exact absurd H (by simp)
          ·replace c39 := Bool.eq_false_iff.mpr c39
           subst c39
           have H1 : (some (⟨#[]⟩ : ByteArray)) = some r := by rw [if_neg (show ¬ (false = true) by decide)] at H; exact H
           clear H
           have H := H1
           clear H1
           obtain rfl := Option.some.inj H
           have hnb45 := NB186_195.out
           have hnc45 := NB195_186.out
           have hcz46_0 : w33.cell? ⟨gb186, 0, none⟩ = some (.int .i64 a0_0) := (blk_cell BK186.out 0).trans rfl
           have hcz46_1 : w33.cell? ⟨gb186, 1, none⟩ = some (.string a0_1) := (blk_cell BK186.out 1).trans rfl
           have hcz46_2 : w33.cell? ⟨gb186, 2, none⟩ = some (.string a0_2) := (blk_cell BK186.out 2).trans rfl
           have hcz46_3 : w33.cell? ⟨gb186, 3, none⟩ = some (.int .i64 a0_3) := (blk_cell BK186.out 3).trans rfl
           have hcz46_4 : w33.cell? ⟨gb186, 4, none⟩ = some (.int .i64 a0_4) := (blk_cell BK186.out 4).trans rfl
           have hcz46_5 : w33.cell? ⟨gb186, 5, none⟩ = some (.string a0_5) := (blk_cell BK186.out 5).trans rfl
           have hfz46_0 := blk_frozen BK186.out 0
           have hfz46_1 := blk_frozen BK186.out 1
           have hfz46_2 := blk_frozen BK186.out 2
           have hfz46_3 := blk_frozen BK186.out 3
           have hfz46_4 := blk_frozen BK186.out 4
           have hfz46_5 := blk_frozen BK186.out 5
           go_wp2_with (first | ((with_reducible refine gate_callee (f := 54) rfl ?_); refine goesL_ (some 44) rfl rfl Tryd.func54 (by kernel_rfl) rfl #[.string a0_2] rfl (by (try simp only [List.map_toArray, List.map_cons, List.map_nil]); first | done | rfl | (simp only [List.length_drop, List.length_take]; rfl)) ?_; (with_reducible refine (impl_isLinePath.calls kj1 a0_2 false _ A38.out).mono ?_); rintro e w' ⟨rfl, ⟨nd, rfl⟩⟩; refine ⟨_, rfl, ?_⟩))
           go_ret
           exact ⟨by first | rfl | (simp [errW_none, errW_some] <;> rfl) | (simp [*, errW_none, errW_some] <;> rfl), by repeat (first | (with_reducible first | exact HB.out | apply below_alloc | apply pw_below_drewN | apply below_drew1 | refine below_set ?_ GE186.out | refine below_set ?_ GE195.out) | exact HB.out)⟩
         ·rw [if_neg c37] at H
          have c37b0 : (a0_0 == 5) = false := beq_eq_false_iff_ne.mpr c37
          have c37b1 : (a0_0 != 5) = true := bne_iff_ne.mpr c37
          (first | rw [c37b0] | (simp only [i64_w, i32_w]; rw [c37b0]) | skip)
          by_cases c47 : a0_0 = 6
          ·rw [if_pos c47] at H
           have c47b0 : (a0_0 == 6) = true := beq_iff_eq.mpr c47
           have c47b1 : (a0_0 != 6) = false := bne_eq_false_iff_eq.mpr c47
           clear c47
           replace H := Option.bind_eq_some_iff.mp H
           obtain ⟨t197, A480, H⟩ := H
           replace H : (if 1 + t197.size ≤ 9223372036854775807 then (if ((⟨#[32]⟩ : ByteArray) ++ t197).size + 1 ≤ 9223372036854775807 then ((impl_Decimal.f a0_4).bind fun t198 => (if (((⟨#[32]⟩ : ByteArray) ++ t197) ++ (⟨#[32]⟩ : ByteArray)).size + t198.size ≤ 9223372036854775807 then (if (((rdOf ByteArray.empty t191 a0_0) ++ (⟨#[32]⟩ : ByteArray)) ++ a0_1).size + ((((⟨#[32]⟩ : ByteArray) ++ t197) ++ (⟨#[32]⟩ : ByteArray)) ++ t198).size ≤ 9223372036854775807 then (impl_AskLine.j1 kj1 ((((rdOf ByteArray.empty t191 a0_0) ++ (⟨#[32]⟩ : ByteArray)) ++ a0_1) ++ ((((⟨#[32]⟩ : ByteArray) ++ t197) ++ (⟨#[32]⟩ : ByteArray)) ++ t198)) 0 (⟨#[]⟩ : ByteArray) a0_2 0 0 a0_5) else (none)) else (none))) else (none)) else (none)) = some r := H
           have A48 := Aside0.mk A480
           clear A480
           by_cases c49 : 1 + t197.size ≤ 9223372036854775807
           ·rw [if_pos c49] at H
            have c49b0 := eq_true c49
            have c49b1 : decide (1 + t197.size ≤ 9223372036854775807) = true := decide_eq_true c49
            try have c49b2 : (9223372036854775807 < 1 + t197.size) = False := eq_false (Nat.not_lt.2 c49)
            by_cases c50 : ((⟨#[32]⟩ : ByteArray) ++ t197).size + 1 ≤ 9223372036854775807
            ·rw [if_pos c50] at H
             have c50b0 := eq_true c50
             have c50b1 : decide (((⟨#[32]⟩ : ByteArray) ++ t197).size + 1 ≤ 9223372036854775807) = true := decide_eq_true c50
             try (have c50b2 := eq_false (Nat.not_lt.2 c50); simp only [ByteArray.size_append, show (⟨#[32]⟩ : ByteArray).size = 1 from rfl] at c50b2)
             replace H := Option.bind_eq_some_iff.mp H
             obtain ⟨t198, A510, H⟩ := H
             replace H : (if (((⟨#[32]⟩ : ByteArray) ++ t197) ++ (⟨#[32]⟩ : ByteArray)).size + t198.size ≤ 9223372036854775807 then (if (((rdOf ByteArray.empty t191 a0_0) ++ (⟨#[32]⟩ : ByteArray)) ++ a0_1).size + ((((⟨#[32]⟩ : ByteArray) ++ t197) ++ (⟨#[32]⟩ : ByteArray)) ++ t198).size ≤ 9223372036854775807 then (impl_AskLine.j1 kj1 ((((rdOf ByteArray.empty t191 a0_0) ++ (⟨#[32]⟩ : ByteArray)) ++ a0_1) ++ ((((⟨#[32]⟩ : ByteArray) ++ t197) ++ (⟨#[32]⟩ : ByteArray)) ++ t198)) 0 (⟨#[]⟩ : ByteArray) a0_2 0 0 a0_5) else (none)) else (none)) = some r := H
             have A51 := Aside0.mk A510
             clear A510
             by_cases c52 : (((⟨#[32]⟩ : ByteArray) ++ t197) ++ (⟨#[32]⟩ : ByteArray)).size + t198.size ≤ 9223372036854775807
             ·rw [if_pos c52] at H
              have c52b0 := eq_true c52
              have c52b1 : decide ((((⟨#[32]⟩ : ByteArray) ++ t197) ++ (⟨#[32]⟩ : ByteArray)).size + t198.size ≤ 9223372036854775807) = true := decide_eq_true c52
              try (have c52b2 := eq_false (Nat.not_lt.2 c52); simp only [ByteArray.size_append, show (⟨#[32]⟩ : ByteArray).size = 1 from rfl] at c52b2)
              by_cases c53 : (((rdOf ByteArray.empty t191 a0_0) ++ (⟨#[32]⟩ : ByteArray)) ++ a0_1).size + ((((⟨#[32]⟩ : ByteArray) ++ t197) ++ (⟨#[32]⟩ : ByteArray)) ++ t198).size ≤ 9223372036854775807
              ·rw [if_pos c53] at H
               have c53b0 := eq_true c53
               have c53b1 : decide ((((rdOf ByteArray.empty t191 a0_0) ++ (⟨#[32]⟩ : ByteArray)) ++ a0_1).size + ((((⟨#[32]⟩ : ByteArray) ++ t197) ++ (⟨#[32]⟩ : ByteArray)) ++ t198).size ≤ 9223372036854775807) = true := decide_eq_true c53
               try (have c53b2 := eq_false (Nat.not_lt.2 c53); simp only [ByteArray.size_append, show (⟨#[32]⟩ : ByteArray).size = 1 from rfl] at c53b2)
               have H' := Aside0.mk H
               clear H
               try go_wp2
               have n0_ : Aside0 (Kd.R Kd.string 9 ((((((((w33.setCell ⟨gb195, 0, none⟩ (.int .i64 a0_0)).setCell ⟨gb195, 1, none⟩ (.string a0_1)).setCell ⟨gb195, 2, none⟩ (.string a0_2)).setCell ⟨gb195, 3, none⟩ (.int .i64 a0_3)).setCell ⟨gb195, 4, none⟩ (.int .i64 a0_4)).setCell ⟨gb195, 5, none⟩ (.string a0_5)).setCell ⟨gb195, 0, none⟩ (.int .i64 0)).setCell ⟨gb195, 1, none⟩ (.string (⟨#[]⟩ : ByteArray))) w.heap.size (fun _ => True) (.slice (some ad194) t191.length co31) t191) := ⟨by (with_reducible repeat (first | apply Kd.R_alloc | apply Kd.R_drewN | apply Kd.R_drew)); exact Kd.R_mono (Kd.R_far (p := ⟨gb195, 1, none⟩) (Kd.R_far (p := ⟨gb195, 0, none⟩) (Kd.R_far (p := ⟨gb195, 5, none⟩) (Kd.R_far (p := ⟨gb195, 4, none⟩) (Kd.R_far (p := ⟨gb195, 3, none⟩) (Kd.R_far (p := ⟨gb195, 2, none⟩) (Kd.R_far (p := ⟨gb195, 1, none⟩) (Kd.R_far (p := ⟨gb195, 0, none⟩) (Kd.R_types HO193.out BK195.out (by decide)) (fun _ hk => hk.2) (.int .i64 a0_0)) (fun _ hk => hk.2) (.string a0_1)) (fun _ hk => hk.2) (.string a0_2)) (fun _ hk => hk.2) (.int .i64 a0_3)) (fun _ hk => hk.2) (.int .i64 a0_4)) (fun _ hk => hk.2) (.string a0_5)) (fun _ hk => hk.2) (.int .i64 0)) (fun _ hk => hk.2) (.string (⟨#[]⟩ : ByteArray))) (fun _ hk => trivial)⟩
               have n1_ : Aside0 (((((((((w33.setCell ⟨gb195, 0, none⟩ (.int .i64 a0_0)).setCell ⟨gb195, 1, none⟩ (.string a0_1)).setCell ⟨gb195, 2, none⟩ (.string a0_2)).setCell ⟨gb195, 3, none⟩ (.int .i64 a0_3)).setCell ⟨gb195, 4, none⟩ (.int .i64 a0_4)).setCell ⟨gb195, 5, none⟩ (.string a0_5)).setCell ⟨gb195, 0, none⟩ (.int .i64 0)).setCell ⟨gb195, 1, none⟩ (.string (⟨#[]⟩ : ByteArray))).heap[gb186]? = some (.cells #[.int .i64 a0_0, .string a0_1, .string a0_2, .int .i64 a0_3, .int .i64 a0_4, .string a0_5] 26 (0, 0))) := ⟨by (with_reducible repeat (first | refine blk_drewN ?_ _ | refine blk_drew ?_ | refine blk_alloc ?_ _)); refine blk_far ?_ NB186_195.out _; (with_reducible repeat (first | refine blk_drewN ?_ _ | refine blk_drew ?_ | refine blk_alloc ?_ _)); refine blk_far ?_ NB186_195.out _; (with_reducible repeat (first | refine blk_drewN ?_ _ | refine blk_drew ?_ | refine blk_alloc ?_ _)); refine blk_far ?_ NB186_195.out _; (with_reducible repeat (first | refine blk_drewN ?_ _ | refine blk_drew ?_ | refine blk_alloc ?_ _)); refine blk_far ?_ NB186_195.out _; (with_reducible repeat (first | refine blk_drewN ?_ _ | refine blk_drew ?_ | refine blk_alloc ?_ _)); refine blk_far ?_ NB186_195.out _; (with_reducible repeat (first | refine blk_drewN ?_ _ | refine blk_drew ?_ | refine blk_alloc ?_ _)); refine blk_far ?_ NB186_195.out _; (with_reducible repeat (first | refine blk_drewN ?_ _ | refine blk_drew ?_ | refine blk_alloc ?_ _)); refine blk_far ?_ NB186_195.out _; (with_reducible repeat (first | refine blk_drewN ?_ _ | refine blk_drew ?_ | refine blk_alloc ?_ _)); refine blk_far ?_ NB186_195.out _; (with_reducible repeat (first | refine blk_drewN ?_ _ | refine blk_drew ?_ | refine blk_alloc ?_ _)); exact BK186.out⟩
               have n2_ : Aside0 (((((((((w33.setCell ⟨gb195, 0, none⟩ (.int .i64 a0_0)).setCell ⟨gb195, 1, none⟩ (.string a0_1)).setCell ⟨gb195, 2, none⟩ (.string a0_2)).setCell ⟨gb195, 3, none⟩ (.int .i64 a0_3)).setCell ⟨gb195, 4, none⟩ (.int .i64 a0_4)).setCell ⟨gb195, 5, none⟩ (.string a0_5)).setCell ⟨gb195, 0, none⟩ (.int .i64 0)).setCell ⟨gb195, 1, none⟩ (.string (⟨#[]⟩ : ByteArray))).heap[gb195]? = some (.cells #[.int .i64 0, .string (⟨#[]⟩ : ByteArray), .string a0_2, .int .i64 a0_3, .int .i64 a0_4, .string a0_5] 26 (0, 0))) := ⟨by (with_reducible repeat (first | refine blk_drewN ?_ _ | refine blk_drew ?_ | refine blk_alloc ?_ _)); refine blk_put (cs := #[.int .i64 0, .string a0_1, .string a0_2, .int .i64 a0_3, .int .i64 a0_4, .string a0_5]) ?_ 1 _ rfl; (with_reducible repeat (first | refine blk_drewN ?_ _ | refine blk_drew ?_ | refine blk_alloc ?_ _)); refine blk_put (cs := #[.int .i64 a0_0, .string a0_1, .string a0_2, .int .i64 a0_3, .int .i64 a0_4, .string a0_5]) ?_ 0 _ rfl; (with_reducible repeat (first | refine blk_drewN ?_ _ | refine blk_drew ?_ | refine blk_alloc ?_ _)); refine blk_put (cs := #[.int .i64 a0_0, .string a0_1, .string a0_2, .int .i64 a0_3, .int .i64 a0_4, .string (⟨#[]⟩ : ByteArray)]) ?_ 5 _ rfl; (with_reducible repeat (first | refine blk_drewN ?_ _ | refine blk_drew ?_ | refine blk_alloc ?_ _)); refine blk_put (cs := #[.int .i64 a0_0, .string a0_1, .string a0_2, .int .i64 a0_3, .int .i64 0, .string (⟨#[]⟩ : ByteArray)]) ?_ 4 _ rfl; (with_reducible repeat (first | refine blk_drewN ?_ _ | refine blk_drew ?_ | refine blk_alloc ?_ _)); refine blk_put (cs := #[.int .i64 a0_0, .string a0_1, .string a0_2, .int .i64 0, .int .i64 0, .string (⟨#[]⟩ : ByteArray)]) ?_ 3 _ rfl; (with_reducible repeat (first | refine blk_drewN ?_ _ | refine blk_drew ?_ | refine blk_alloc ?_ _)); refine blk_put (cs := #[.int .i64 a0_0, .string a0_1, .string (⟨#[]⟩ : ByteArray), .int .i64 0, .int .i64 0, .string (⟨#[]⟩ : ByteArray)]) ?_ 2 _ rfl; (with_reducible repeat (first | refine blk_drewN ?_ _ | refine blk_drew ?_ | refine blk_alloc ?_ _)); refine blk_put (cs := #[.int .i64 a0_0, .string (⟨#[]⟩ : ByteArray), .string (⟨#[]⟩ : ByteArray), .int .i64 0, .int .i64 0, .string (⟨#[]⟩ : ByteArray)]) ?_ 1 _ rfl; (with_reducible repeat (first | refine blk_drewN ?_ _ | refine blk_drew ?_ | refine blk_alloc ?_ _)); refine blk_put (cs := #[.int .i64 0, .string (⟨#[]⟩ : ByteArray), .string (⟨#[]⟩ : ByteArray), .int .i64 0, .int .i64 0, .string (⟨#[]⟩ : ByteArray)]) ?_ 0 _ rfl; (with_reducible repeat (first | refine blk_drewN ?_ _ | refine blk_drew ?_ | refine blk_alloc ?_ _)); exact BK195.out⟩
               have n3_ : Aside0 (Below w.heap.size w ((((((((w33.setCell ⟨gb195, 0, none⟩ (.int .i64 a0_0)).setCell ⟨gb195, 1, none⟩ (.string a0_1)).setCell ⟨gb195, 2, none⟩ (.string a0_2)).setCell ⟨gb195, 3, none⟩ (.int .i64 a0_3)).setCell ⟨gb195, 4, none⟩ (.int .i64 a0_4)).setCell ⟨gb195, 5, none⟩ (.string a0_5)).setCell ⟨gb195, 0, none⟩ (.int .i64 0)).setCell ⟨gb195, 1, none⟩ (.string (⟨#[]⟩ : ByteArray)))) := ⟨by repeat (first | (with_reducible first | exact HB.out | apply below_alloc | apply pw_below_drewN | apply below_drew1 | refine below_set ?_ GE186.out | refine below_set ?_ GE195.out) | exact HB.out)⟩
               (try clear HO193)
               (try clear BK186)
               (try clear BK195)
               (try clear HB)
               generalize ((((((((w33.setCell ⟨gb195, 0, none⟩ (.int .i64 a0_0)).setCell ⟨gb195, 1, none⟩ (.string a0_1)).setCell ⟨gb195, 2, none⟩ (.string a0_2)).setCell ⟨gb195, 3, none⟩ (.int .i64 a0_3)).setCell ⟨gb195, 4, none⟩ (.int .i64 a0_4)).setCell ⟨gb195, 5, none⟩ (.string a0_5)).setCell ⟨gb195, 0, none⟩ (.int .i64 0)).setCell ⟨gb195, 1, none⟩ (.string (⟨#[]⟩ : ByteArray))) = w54 at n0_ n1_ n2_ n3_ ⊢
               have HO193 := n0_
               have BK186 := n1_
               have BK195 := n2_
               have HB := n3_
               clear n0_ n1_ n2_ n3_
               have n0_ := Aside0.mk (Kd.R_drew HO193.out)
               have n1_ := Aside0.mk (blk_drew BK186.out)
               have n2_ := Aside0.mk (blk_drew BK195.out)
               have n3_ := Aside0.mk (below_drew1 HB.out)
               clear HO193
               clear BK186
               clear BK195
               clear HB
               have HO193 := n0_
               have BK186 := n1_
               have BK195 := n2_
               have HB := n3_
               clear n0_ n1_ n2_ n3_
               refine start_ (n := 12) (S := fun w' => w'.cell? ⟨gb186, 0, none⟩ = some (.int .i64 a0_0) ∧ w'.cell? ⟨gb186, 1, none⟩ = some (.string a0_1) ∧ w'.cell? ⟨gb186, 2, none⟩ = some (.string a0_2) ∧ w'.cell? ⟨gb186, 3, none⟩ = some (.int .i64 a0_3) ∧ w'.cell? ⟨gb186, 4, none⟩ = some (.int .i64 a0_4) ∧ w'.cell? ⟨gb186, 5, none⟩ = some (.string a0_5)) (ds := []) (msk 12 0) (by kernel_rfl) rfl rfl ⟨(blk_cell BK186.out 0).trans rfl, (blk_cell BK186.out 1).trans rfl, (blk_cell BK186.out 2).trans rfl, (blk_cell BK186.out 3).trans rfl, (blk_cell BK186.out 4).trans rfl, (blk_cell BK186.out 5).trans rfl⟩ (fun hHeld => ?_); refine with_tabW impl_AskLine.tab13 impl_AskLine.bits13 (fun HT_ HW_ => ?_)
               generalize w54.drew = w55 at HO193 BK186 BK195 HB hHeld ⊢
               refine pure_ (i := 0) (N := some 54) (v := ?_) (a' := ?_) (msk 12 1) rfl rfl (any_of HT_.out (by kernel_rfl)) (fun _ _ _ h => h) (Or.inl ⟨by rfl, ?_⟩) ?_ ?_
               rotate_left
               ·intro w'
                go_simp
                with_reducible rfl
               rotate_left
               ·simp only [Act.put, List.setIfInBounds_toArray, List.set_cons_zero, List.set_cons_succ, i64_w, i32_w]
                rfl
               refine pure_ (i := 1) (N := some 55) (v := ?_) (a' := ?_) (msk 12 2) rfl rfl (any_of HT_.out (by kernel_rfl)) (fun _ _ _ h => h) (Or.inl ⟨by rfl, ?_⟩) ?_ ?_
               rotate_left
               ·intro w'
                go_simp
                with_reducible rfl
               rotate_left
               ·simp only [Act.put, List.setIfInBounds_toArray, List.set_cons_zero, List.set_cons_succ, i64_w, i32_w]
                rfl
               refine pure_ (i := 6) (N := some 60) (v := ?_) (a' := ?_) #[true, true, false, false, false, false, true, false, false, false, false, false] rfl rfl (any_of HT_.out (by kernel_rfl)) (fun _ _ _ h => h) (Or.inl ⟨by rfl, ?_⟩) ?_ ?_
               rotate_left
               ·intro w'
                go_simp
                with_reducible rfl
               rotate_left
               ·simp only [Act.put, List.setIfInBounds_toArray, List.set_cons_zero, List.set_cons_succ, i64_w, i32_w]
                rfl
               refine take_ (i := 2) (N := some 56) (v := ?_) (a' := ?_) #[true, true, true, false, false, false, true, false, false, false, false, false] rfl rfl (take_ofW HT_.out HW_.out (by kernel_rfl)) (fun _ _ _ h => h) (Or.inl ⟨by rfl, ?_⟩) hHeld ?_ ?_
               rotate_left
               ·rintro w' ⟨s0, s1, s2, s3, s4, s5⟩
                go_simp
                with_reducible rfl
               rotate_left
               ·simp only [Act.put, List.setIfInBounds_toArray, List.set_cons_zero, List.set_cons_succ, i64_w, i32_w]
                rfl
               refine take_ (i := 7) (N := some 61) (v := ?_) (a' := ?_) #[true, true, true, false, false, false, true, true, false, false, false, false] rfl rfl (take_ofW HT_.out HW_.out (by kernel_rfl)) (fun _ _ _ h => h) (Or.inl ⟨by rfl, ?_⟩) hHeld ?_ ?_
               rotate_left
               ·rintro w' ⟨s0, s1, s2, s3, s4, s5⟩
                go_simp
                with_reducible rfl
               rotate_left
               ·simp only [Act.put, List.setIfInBounds_toArray, List.set_cons_zero, List.set_cons_succ, i64_w, i32_w]
                rfl
               refine one_ (i := 3) (N := some 57) #[true, true, true, true, false, false, true, true, false, false, false, false] rfl rfl (one_of HT_.out (by kernel_rfl)) (by decide) (fun K hK => ?_)
               refine goes_ Tryd.func57 (by kernel_rfl) rfl #[.int .i64 a0_3] (by rfl) rfl rfl (by (try simp only [List.map_toArray, List.map_cons, List.map_nil]); first | done | rfl | (simp only [List.length_drop, List.length_take]; rfl)) ?_
               with_reducible refine (impl_Decimal.calls a0_3 t197 _ ?side1 A48.out).mono ?_
               (case side1 => exact Glob.below HG.out (by repeat (first | (with_reducible first | exact HB.out | apply below_alloc | apply pw_below_drewN | apply below_drew1 | refine below_set ?_ GE186.out | refine below_set ?_ GE195.out) | exact HB.out)))
               rintro e w56 ⟨rfl, hb⟩
               refine ⟨_, rfl, ?_⟩
               have n0_ := Aside0.mk (Kd.R_below (by (with_reducible repeat (first | apply Kd.R_alloc | apply Kd.R_drewN | apply Kd.R_drew)); exact HO193.out) hb)
               have n1_ := Aside0.mk (blk_below (g := gb186) (o := .cells #[.int .i64 a0_0, .string a0_1, .string a0_2, .int .i64 a0_3, .int .i64 a0_4, .string a0_5] 26 (0, 0)) (by (with_reducible repeat (first | refine blk_drewN ?_ _ | refine blk_drew ?_ | refine blk_alloc ?_ _)); exact BK186.out) hb)
               have n2_ := Aside0.mk (blk_below (g := gb195) (o := .cells #[.int .i64 0, .string (⟨#[]⟩ : ByteArray), .string a0_2, .int .i64 a0_3, .int .i64 a0_4, .string a0_5] 26 (0, 0)) (by (with_reducible repeat (first | refine blk_drewN ?_ _ | refine blk_drew ?_ | refine blk_alloc ?_ _)); exact BK195.out) hb)
               have n3_ := Aside0.mk (below_step (by repeat (first | (with_reducible first | exact HB.out | apply below_alloc | apply pw_below_drewN | apply below_drew1 | refine below_set ?_ GE186.out | refine below_set ?_ GE195.out) | exact HB.out)) hb)
               clear HO193
               clear BK186
               clear BK195
               clear HB
               have HO193 := n0_
               have BK186 := n1_
               have BK195 := n2_
               have HB := n3_
               clear n0_ n1_ n2_ n3_
               (try clear hb)
               (try clear hb2)
               (try clear hk)
               (try clear hi)
               refine hK.out _ _ ⟨(blk_cell BK186.out 0).trans rfl, (blk_cell BK186.out 1).trans rfl, (blk_cell BK186.out 2).trans rfl, (blk_cell BK186.out 3).trans rfl, (blk_cell BK186.out 4).trans rfl, (blk_cell BK186.out 5).trans rfl⟩ (fun hHeld => ?_)
               clear hK K
               refine norm_ (a' := ?_) ?_ ?_
               rotate_left
               ·show Act.put _ (some 57) _ = _
                simp only [Act.put, List.setIfInBounds_toArray, List.set_cons_zero, List.set_cons_succ, i64_w, i32_w]
                rfl
               refine pure_ (i := 4) (N := some 58) (v := ?_) (a' := ?_) #[true, true, true, true, true, false, true, true, false, false, false, false] rfl rfl (any_of HT_.out (by kernel_rfl)) (fun _ _ _ h => h) (Or.inl ⟨by rfl, ?_⟩) ?_ ?_
               rotate_left
               ·intro w'
                go_simp
                with_reducible rfl
               rotate_left
               ·simp only [Act.put, List.setIfInBounds_toArray, List.set_cons_zero, List.set_cons_succ, i64_w, i32_w]
                rfl
               refine pure_ (i := 5) (N := some 59) (v := ?_) (a' := ?_) (msk 12 8) rfl rfl (any_of HT_.out (by kernel_rfl)) (fun _ _ _ h => h) (Or.inl ⟨by rfl, ?_⟩) ?_ ?_
               rotate_left
               ·intro w'
                go_simp
                with_reducible rfl
               rotate_left
               ·simp only [Act.put, List.setIfInBounds_toArray, List.set_cons_zero, List.set_cons_succ, i64_w, i32_w]
                rfl
               refine one_ (i := 8) (N := some 62) (msk 12 9) rfl rfl (one_of HT_.out (by kernel_rfl)) (by decide) (fun K hK => ?_)
               refine goes_ Tryd.func57 (by kernel_rfl) rfl #[.int .i64 a0_4] (by rfl) rfl rfl (by (try simp only [List.map_toArray, List.map_cons, List.map_nil]); first | done | rfl | (simp only [List.length_drop, List.length_take]; rfl)) ?_
               with_reducible refine (impl_Decimal.calls a0_4 t198 _ ?side1 A51.out).mono ?_
               (case side1 => exact Glob.below HG.out (by repeat (first | (with_reducible first | exact HB.out | apply below_alloc | apply pw_below_drewN | apply below_drew1 | refine below_set ?_ GE186.out | refine below_set ?_ GE195.out) | exact HB.out)))
               rintro e w57 ⟨rfl, hb⟩
               refine ⟨_, rfl, ?_⟩
               have n0_ := Aside0.mk (Kd.R_below (by (with_reducible repeat (first | apply Kd.R_alloc | apply Kd.R_drewN | apply Kd.R_drew)); exact HO193.out) hb)
               have n1_ := Aside0.mk (blk_below (g := gb186) (o := .cells #[.int .i64 a0_0, .string a0_1, .string a0_2, .int .i64 a0_3, .int .i64 a0_4, .string a0_5] 26 (0, 0)) (by (with_reducible repeat (first | refine blk_drewN ?_ _ | refine blk_drew ?_ | refine blk_alloc ?_ _)); exact BK186.out) hb)
               have n2_ := Aside0.mk (blk_below (g := gb195) (o := .cells #[.int .i64 0, .string (⟨#[]⟩ : ByteArray), .string a0_2, .int .i64 a0_3, .int .i64 a0_4, .string a0_5] 26 (0, 0)) (by (with_reducible repeat (first | refine blk_drewN ?_ _ | refine blk_drew ?_ | refine blk_alloc ?_ _)); exact BK195.out) hb)
               have n3_ := Aside0.mk (below_step (by repeat (first | (with_reducible first | exact HB.out | apply below_alloc | apply pw_below_drewN | apply below_drew1 | refine below_set ?_ GE186.out | refine below_set ?_ GE195.out) | exact HB.out)) hb)
               clear HO193
               clear BK186
               clear BK195
               clear HB
               have HO193 := n0_
               have BK186 := n1_
               have BK195 := n2_
               have HB := n3_
               clear n0_ n1_ n2_ n3_
               (try clear hb)
               (try clear hb2)
               (try clear hk)
               (try clear hi)
               refine hK.out _ _ ⟨(blk_cell BK186.out 0).trans rfl, (blk_cell BK186.out 1).trans rfl, (blk_cell BK186.out 2).trans rfl, (blk_cell BK186.out 3).trans rfl, (blk_cell BK186.out 4).trans rfl, (blk_cell BK186.out 5).trans rfl⟩ (fun hHeld => ?_)
               clear hK K
               refine norm_ (a' := ?_) ?_ ?_
               rotate_left
               ·show Act.put _ (some 62) _ = _
                simp only [Act.put, List.setIfInBounds_toArray, List.set_cons_zero, List.set_cons_succ, i64_w, i32_w]
                rfl
               refine pure_ (i := 9) (N := some 63) (v := ?_) (a' := ?_) (msk 12 10) rfl rfl (any_of HT_.out (by kernel_rfl)) (fun _ _ _ h => h) (Or.inl ⟨by rfl, ?_⟩) ?_ ?_
               rotate_left
               ·intro w'
                go_simp
                with_reducible rfl
               rotate_left
               ·simp only [Act.put, List.setIfInBounds_toArray, List.set_cons_zero, List.set_cons_succ, i64_w, i32_w]
                rfl
               refine pure_ (i := 10) (N := some 64) (v := ?_) (a' := ?_) (msk 12 11) rfl rfl (any_of HT_.out (by kernel_rfl)) (fun _ _ _ h => h) (Or.inl ⟨by rfl, ?_⟩) ?_ ?_
               rotate_left
               ·intro w'
                go_simp
                with_reducible rfl
               rotate_left
               ·simp only [Act.put, List.setIfInBounds_toArray, List.set_cons_zero, List.set_cons_succ, i64_w, i32_w]
                rfl
               refine pure_ (i := 11) (N := some 3) (v := ?_) (a' := ?_) (msk 12 12) rfl rfl (any_of HT_.out (by kernel_rfl)) (fun _ _ _ h => h) (Or.inl ⟨by rfl, ?_⟩) ?_ ?_
               rotate_left
               ·intro w'
                go_simp
                with_reducible rfl
               rotate_left
               ·simp only [Act.put, List.setIfInBounds_toArray, List.set_cons_zero, List.set_cons_succ, i64_w, i32_w]
                rfl
               refine done_ (done_of HT_.out (by kernel_rfl)) ?_
               have hnb58 := NB195_186.out
               have hnc58 := NB186_195.out
               have hcz59_0 : w57.cell? ⟨gb195, 0, none⟩ = some (.int .i64 0) := (blk_cell BK195.out 0).trans rfl
               have hcz59_1 : w57.cell? ⟨gb195, 1, none⟩ = some (.string (⟨#[]⟩ : ByteArray)) := (blk_cell BK195.out 1).trans rfl
               have hcz59_2 : w57.cell? ⟨gb195, 2, none⟩ = some (.string a0_2) := (blk_cell BK195.out 2).trans rfl
               have hcz59_3 : w57.cell? ⟨gb195, 3, none⟩ = some (.int .i64 a0_3) := (blk_cell BK195.out 3).trans rfl
               have hcz59_4 : w57.cell? ⟨gb195, 4, none⟩ = some (.int .i64 a0_4) := (blk_cell BK195.out 4).trans rfl
               have hcz59_5 : w57.cell? ⟨gb195, 5, none⟩ = some (.string a0_5) := (blk_cell BK195.out 5).trans rfl
               have hfz59_0 := blk_frozen BK195.out 0
               have hfz59_1 := blk_frozen BK195.out 1
               have hfz59_2 := blk_frozen BK195.out 2
               have hfz59_3 := blk_frozen BK195.out 3
               have hfz59_4 := blk_frozen BK195.out 4
               have hfz59_5 := blk_frozen BK195.out 5
               try go_wp2
               go_meet
               case rel => exact ⟨_, ((((rdOf ByteArray.empty t191 a0_0) ++ (⟨#[32]⟩ : ByteArray)) ++ a0_1) ++ ((((⟨#[32]⟩ : ByteArray) ++ t197) ++ (⟨#[32]⟩ : ByteArray)) ++ t198)), (a0_2), (0), (0), (a0_5), (by first | rfl | (simp; done) | (simp [*]; done)), H', ⟨by have := HJ1.out; first | omega | exact Nat.le_refl _⟩, ⟨by (with_reducible repeat (first | refine blk_drewN ?_ _ | refine blk_drew ?_ | refine blk_alloc ?_ _)); refine blk_far ?_ NB186_195.out _; (with_reducible repeat (first | refine blk_drewN ?_ _ | refine blk_drew ?_ | refine blk_alloc ?_ _)); refine blk_far ?_ NB186_195.out _; (with_reducible repeat (first | refine blk_drewN ?_ _ | refine blk_drew ?_ | refine blk_alloc ?_ _)); exact BK186.out⟩, ⟨by (with_reducible repeat (first | refine blk_drewN ?_ _ | refine blk_drew ?_ | refine blk_alloc ?_ _)); refine blk_put (cs := #[.int .i64 0, .string (⟨#[]⟩ : ByteArray), .string a0_2, .int .i64 0, .int .i64 a0_4, .string a0_5]) ?_ 4 _ rfl; (with_reducible repeat (first | refine blk_drewN ?_ _ | refine blk_drew ?_ | refine blk_alloc ?_ _)); refine blk_put (cs := #[.int .i64 0, .string (⟨#[]⟩ : ByteArray), .string a0_2, .int .i64 a0_3, .int .i64 a0_4, .string a0_5]) ?_ 3 _ rfl; (with_reducible repeat (first | refine blk_drewN ?_ _ | refine blk_drew ?_ | refine blk_alloc ?_ _)); exact BK195.out⟩, ⟨by repeat (first | (with_reducible first | exact HB.out | apply below_alloc | apply pw_below_drewN | apply below_drew1 | refine below_set ?_ GE186.out | refine below_set ?_ GE195.out) | exact HB.out)⟩⟩
              ·rw [if_neg c53] at H
               exact absurd H (by simp)
             ·rw [if_neg c52] at H
              exact absurd H (by simp)
            ·rw [if_neg c50] at H
             exact absurd H (by simp)
           ·rw [if_neg c49] at H
            exact absurd H (by simp)
          ·rw [if_neg c47] at H
           have c47b0 : (a0_0 == 6) = false := beq_eq_false_iff_ne.mpr c47
           have c47b1 : (a0_0 != 6) = true := bne_iff_ne.mpr c47
           by_cases c60 : a0_0 = 7
           ·rw [if_pos c60] at H
            have c60b0 : (a0_0 == 7) = true := beq_iff_eq.mpr c60
            have c60b1 : (a0_0 != 7) = false := bne_eq_false_iff_eq.mpr c60
            clear c60
            replace H := Option.bind_eq_some_iff.mp H
            obtain ⟨t199, A610, H⟩ := H
            replace H : (if 1 + t199.size ≤ 9223372036854775807 then (if ((⟨#[32]⟩ : ByteArray) ++ t199).size + 1 ≤ 9223372036854775807 then ((impl_hexOrDash.f a0_5).bind fun t200 => (if (((⟨#[32]⟩ : ByteArray) ++ t199) ++ (⟨#[32]⟩ : ByteArray)).size + t200.size ≤ 9223372036854775807 then (if (((rdOf ByteArray.empty t191 a0_0) ++ (⟨#[32]⟩ : ByteArray)) ++ a0_1).size + ((((⟨#[32]⟩ : ByteArray) ++ t199) ++ (⟨#[32]⟩ : ByteArray)) ++ t200).size ≤ 9223372036854775807 then (impl_AskLine.j1 kj1 ((((rdOf ByteArray.empty t191 a0_0) ++ (⟨#[32]⟩ : ByteArray)) ++ a0_1) ++ ((((⟨#[32]⟩ : ByteArray) ++ t199) ++ (⟨#[32]⟩ : ByteArray)) ++ t200)) 0 (⟨#[]⟩ : ByteArray) a0_2 0 a0_4 (⟨#[]⟩ : ByteArray)) else (none)) else (none))) else (none)) else (none)) = some r := H
            have A61 := Aside0.mk A610
            clear A610
            by_cases c62 : 1 + t199.size ≤ 9223372036854775807
            ·rw [if_pos c62] at H
             have c62b0 := eq_true c62
             have c62b1 : decide (1 + t199.size ≤ 9223372036854775807) = true := decide_eq_true c62
             try have c62b2 : (9223372036854775807 < 1 + t199.size) = False := eq_false (Nat.not_lt.2 c62)
             by_cases c63 : ((⟨#[32]⟩ : ByteArray) ++ t199).size + 1 ≤ 9223372036854775807
             ·rw [if_pos c63] at H
              have c63b0 := eq_true c63
              have c63b1 : decide (((⟨#[32]⟩ : ByteArray) ++ t199).size + 1 ≤ 9223372036854775807) = true := decide_eq_true c63
              try (have c63b2 := eq_false (Nat.not_lt.2 c63); simp only [ByteArray.size_append, show (⟨#[32]⟩ : ByteArray).size = 1 from rfl] at c63b2)
              replace H := Option.bind_eq_some_iff.mp H
              obtain ⟨t200, A640, H⟩ := H
              replace H : (if (((⟨#[32]⟩ : ByteArray) ++ t199) ++ (⟨#[32]⟩ : ByteArray)).size + t200.size ≤ 9223372036854775807 then (if (((rdOf ByteArray.empty t191 a0_0) ++ (⟨#[32]⟩ : ByteArray)) ++ a0_1).size + ((((⟨#[32]⟩ : ByteArray) ++ t199) ++ (⟨#[32]⟩ : ByteArray)) ++ t200).size ≤ 9223372036854775807 then (impl_AskLine.j1 kj1 ((((rdOf ByteArray.empty t191 a0_0) ++ (⟨#[32]⟩ : ByteArray)) ++ a0_1) ++ ((((⟨#[32]⟩ : ByteArray) ++ t199) ++ (⟨#[32]⟩ : ByteArray)) ++ t200)) 0 (⟨#[]⟩ : ByteArray) a0_2 0 a0_4 (⟨#[]⟩ : ByteArray)) else (none)) else (none)) = some r := H
              have A64 := Aside0.mk A640
              clear A640
              by_cases c65 : (((⟨#[32]⟩ : ByteArray) ++ t199) ++ (⟨#[32]⟩ : ByteArray)).size + t200.size ≤ 9223372036854775807
              ·rw [if_pos c65] at H
               have c65b0 := eq_true c65
               have c65b1 : decide ((((⟨#[32]⟩ : ByteArray) ++ t199) ++ (⟨#[32]⟩ : ByteArray)).size + t200.size ≤ 9223372036854775807) = true := decide_eq_true c65
               try (have c65b2 := eq_false (Nat.not_lt.2 c65); simp only [ByteArray.size_append, show (⟨#[32]⟩ : ByteArray).size = 1 from rfl] at c65b2)
               by_cases c66 : (((rdOf ByteArray.empty t191 a0_0) ++ (⟨#[32]⟩ : ByteArray)) ++ a0_1).size + ((((⟨#[32]⟩ : ByteArray) ++ t199) ++ (⟨#[32]⟩ : ByteArray)) ++ t200).size ≤ 9223372036854775807
               ·rw [if_pos c66] at H
                have c66b0 := eq_true c66
                have c66b1 : decide ((((rdOf ByteArray.empty t191 a0_0) ++ (⟨#[32]⟩ : ByteArray)) ++ a0_1).size + ((((⟨#[32]⟩ : ByteArray) ++ t199) ++ (⟨#[32]⟩ : ByteArray)) ++ t200).size ≤ 9223372036854775807) = true := decide_eq_true c66
                try (have c66b2 := eq_false (Nat.not_lt.2 c66); simp only [ByteArray.size_append, show (⟨#[32]⟩ : ByteArray).size = 1 from rfl] at c66b2)
                have H' := Aside0.mk H
                clear H
                try go_wp2
                have n0_ : Aside0 (Kd.R Kd.string 9 ((((((((w33.setCell ⟨gb195, 0, none⟩ (.int .i64 a0_0)).setCell ⟨gb195, 1, none⟩ (.string a0_1)).setCell ⟨gb195, 2, none⟩ (.string a0_2)).setCell ⟨gb195, 3, none⟩ (.int .i64 a0_3)).setCell ⟨gb195, 4, none⟩ (.int .i64 a0_4)).setCell ⟨gb195, 5, none⟩ (.string a0_5)).setCell ⟨gb195, 0, none⟩ (.int .i64 0)).setCell ⟨gb195, 1, none⟩ (.string (⟨#[]⟩ : ByteArray))) w.heap.size (fun _ => True) (.slice (some ad194) t191.length co31) t191) := ⟨by (with_reducible repeat (first | apply Kd.R_alloc | apply Kd.R_drewN | apply Kd.R_drew)); exact Kd.R_mono (Kd.R_far (p := ⟨gb195, 1, none⟩) (Kd.R_far (p := ⟨gb195, 0, none⟩) (Kd.R_far (p := ⟨gb195, 5, none⟩) (Kd.R_far (p := ⟨gb195, 4, none⟩) (Kd.R_far (p := ⟨gb195, 3, none⟩) (Kd.R_far (p := ⟨gb195, 2, none⟩) (Kd.R_far (p := ⟨gb195, 1, none⟩) (Kd.R_far (p := ⟨gb195, 0, none⟩) (Kd.R_types HO193.out BK195.out (by decide)) (fun _ hk => hk.2) (.int .i64 a0_0)) (fun _ hk => hk.2) (.string a0_1)) (fun _ hk => hk.2) (.string a0_2)) (fun _ hk => hk.2) (.int .i64 a0_3)) (fun _ hk => hk.2) (.int .i64 a0_4)) (fun _ hk => hk.2) (.string a0_5)) (fun _ hk => hk.2) (.int .i64 0)) (fun _ hk => hk.2) (.string (⟨#[]⟩ : ByteArray))) (fun _ hk => trivial)⟩
                have n1_ : Aside0 (((((((((w33.setCell ⟨gb195, 0, none⟩ (.int .i64 a0_0)).setCell ⟨gb195, 1, none⟩ (.string a0_1)).setCell ⟨gb195, 2, none⟩ (.string a0_2)).setCell ⟨gb195, 3, none⟩ (.int .i64 a0_3)).setCell ⟨gb195, 4, none⟩ (.int .i64 a0_4)).setCell ⟨gb195, 5, none⟩ (.string a0_5)).setCell ⟨gb195, 0, none⟩ (.int .i64 0)).setCell ⟨gb195, 1, none⟩ (.string (⟨#[]⟩ : ByteArray))).heap[gb186]? = some (.cells #[.int .i64 a0_0, .string a0_1, .string a0_2, .int .i64 a0_3, .int .i64 a0_4, .string a0_5] 26 (0, 0))) := ⟨by (with_reducible repeat (first | refine blk_drewN ?_ _ | refine blk_drew ?_ | refine blk_alloc ?_ _)); refine blk_far ?_ NB186_195.out _; (with_reducible repeat (first | refine blk_drewN ?_ _ | refine blk_drew ?_ | refine blk_alloc ?_ _)); refine blk_far ?_ NB186_195.out _; (with_reducible repeat (first | refine blk_drewN ?_ _ | refine blk_drew ?_ | refine blk_alloc ?_ _)); refine blk_far ?_ NB186_195.out _; (with_reducible repeat (first | refine blk_drewN ?_ _ | refine blk_drew ?_ | refine blk_alloc ?_ _)); refine blk_far ?_ NB186_195.out _; (with_reducible repeat (first | refine blk_drewN ?_ _ | refine blk_drew ?_ | refine blk_alloc ?_ _)); refine blk_far ?_ NB186_195.out _; (with_reducible repeat (first | refine blk_drewN ?_ _ | refine blk_drew ?_ | refine blk_alloc ?_ _)); refine blk_far ?_ NB186_195.out _; (with_reducible repeat (first | refine blk_drewN ?_ _ | refine blk_drew ?_ | refine blk_alloc ?_ _)); refine blk_far ?_ NB186_195.out _; (with_reducible repeat (first | refine blk_drewN ?_ _ | refine blk_drew ?_ | refine blk_alloc ?_ _)); refine blk_far ?_ NB186_195.out _; (with_reducible repeat (first | refine blk_drewN ?_ _ | refine blk_drew ?_ | refine blk_alloc ?_ _)); exact BK186.out⟩
                have n2_ : Aside0 (((((((((w33.setCell ⟨gb195, 0, none⟩ (.int .i64 a0_0)).setCell ⟨gb195, 1, none⟩ (.string a0_1)).setCell ⟨gb195, 2, none⟩ (.string a0_2)).setCell ⟨gb195, 3, none⟩ (.int .i64 a0_3)).setCell ⟨gb195, 4, none⟩ (.int .i64 a0_4)).setCell ⟨gb195, 5, none⟩ (.string a0_5)).setCell ⟨gb195, 0, none⟩ (.int .i64 0)).setCell ⟨gb195, 1, none⟩ (.string (⟨#[]⟩ : ByteArray))).heap[gb195]? = some (.cells #[.int .i64 0, .string (⟨#[]⟩ : ByteArray), .string a0_2, .int .i64 a0_3, .int .i64 a0_4, .string a0_5] 26 (0, 0))) := ⟨by (with_reducible repeat (first | refine blk_drewN ?_ _ | refine blk_drew ?_ | refine blk_alloc ?_ _)); refine blk_put (cs := #[.int .i64 0, .string a0_1, .string a0_2, .int .i64 a0_3, .int .i64 a0_4, .string a0_5]) ?_ 1 _ rfl; (with_reducible repeat (first | refine blk_drewN ?_ _ | refine blk_drew ?_ | refine blk_alloc ?_ _)); refine blk_put (cs := #[.int .i64 a0_0, .string a0_1, .string a0_2, .int .i64 a0_3, .int .i64 a0_4, .string a0_5]) ?_ 0 _ rfl; (with_reducible repeat (first | refine blk_drewN ?_ _ | refine blk_drew ?_ | refine blk_alloc ?_ _)); refine blk_put (cs := #[.int .i64 a0_0, .string a0_1, .string a0_2, .int .i64 a0_3, .int .i64 a0_4, .string (⟨#[]⟩ : ByteArray)]) ?_ 5 _ rfl; (with_reducible repeat (first | refine blk_drewN ?_ _ | refine blk_drew ?_ | refine blk_alloc ?_ _)); refine blk_put (cs := #[.int .i64 a0_0, .string a0_1, .string a0_2, .int .i64 a0_3, .int .i64 0, .string (⟨#[]⟩ : ByteArray)]) ?_ 4 _ rfl; (with_reducible repeat (first | refine blk_drewN ?_ _ | refine blk_drew ?_ | refine blk_alloc ?_ _)); refine blk_put (cs := #[.int .i64 a0_0, .string a0_1, .string a0_2, .int .i64 0, .int .i64 0, .string (⟨#[]⟩ : ByteArray)]) ?_ 3 _ rfl; (with_reducible repeat (first | refine blk_drewN ?_ _ | refine blk_drew ?_ | refine blk_alloc ?_ _)); refine blk_put (cs := #[.int .i64 a0_0, .string a0_1, .string (⟨#[]⟩ : ByteArray), .int .i64 0, .int .i64 0, .string (⟨#[]⟩ : ByteArray)]) ?_ 2 _ rfl; (with_reducible repeat (first | refine blk_drewN ?_ _ | refine blk_drew ?_ | refine blk_alloc ?_ _)); refine blk_put (cs := #[.int .i64 a0_0, .string (⟨#[]⟩ : ByteArray), .string (⟨#[]⟩ : ByteArray), .int .i64 0, .int .i64 0, .string (⟨#[]⟩ : ByteArray)]) ?_ 1 _ rfl; (with_reducible repeat (first | refine blk_drewN ?_ _ | refine blk_drew ?_ | refine blk_alloc ?_ _)); refine blk_put (cs := #[.int .i64 0, .string (⟨#[]⟩ : ByteArray), .string (⟨#[]⟩ : ByteArray), .int .i64 0, .int .i64 0, .string (⟨#[]⟩ : ByteArray)]) ?_ 0 _ rfl; (with_reducible repeat (first | refine blk_drewN ?_ _ | refine blk_drew ?_ | refine blk_alloc ?_ _)); exact BK195.out⟩
                have n3_ : Aside0 (Below w.heap.size w ((((((((w33.setCell ⟨gb195, 0, none⟩ (.int .i64 a0_0)).setCell ⟨gb195, 1, none⟩ (.string a0_1)).setCell ⟨gb195, 2, none⟩ (.string a0_2)).setCell ⟨gb195, 3, none⟩ (.int .i64 a0_3)).setCell ⟨gb195, 4, none⟩ (.int .i64 a0_4)).setCell ⟨gb195, 5, none⟩ (.string a0_5)).setCell ⟨gb195, 0, none⟩ (.int .i64 0)).setCell ⟨gb195, 1, none⟩ (.string (⟨#[]⟩ : ByteArray)))) := ⟨by repeat (first | (with_reducible first | exact HB.out | apply below_alloc | apply pw_below_drewN | apply below_drew1 | refine below_set ?_ GE186.out | refine below_set ?_ GE195.out) | exact HB.out)⟩
                (try clear HO193)
                (try clear BK186)
                (try clear BK195)
                (try clear HB)
                generalize ((((((((w33.setCell ⟨gb195, 0, none⟩ (.int .i64 a0_0)).setCell ⟨gb195, 1, none⟩ (.string a0_1)).setCell ⟨gb195, 2, none⟩ (.string a0_2)).setCell ⟨gb195, 3, none⟩ (.int .i64 a0_3)).setCell ⟨gb195, 4, none⟩ (.int .i64 a0_4)).setCell ⟨gb195, 5, none⟩ (.string a0_5)).setCell ⟨gb195, 0, none⟩ (.int .i64 0)).setCell ⟨gb195, 1, none⟩ (.string (⟨#[]⟩ : ByteArray))) = w67 at n0_ n1_ n2_ n3_ ⊢
                have HO193 := n0_
                have BK186 := n1_
                have BK195 := n2_
                have HB := n3_
                clear n0_ n1_ n2_ n3_
                have n0_ := Aside0.mk (Kd.R_drew HO193.out)
                have n1_ := Aside0.mk (blk_drew BK186.out)
                have n2_ := Aside0.mk (blk_drew BK195.out)
                have n3_ := Aside0.mk (below_drew1 HB.out)
                clear HO193
                clear BK186
                clear BK195
                clear HB
                have HO193 := n0_
                have BK186 := n1_
                have BK195 := n2_
                have HB := n3_
                clear n0_ n1_ n2_ n3_
                refine start_ (n := 12) (S := fun w' => w'.cell? ⟨gb186, 0, none⟩ = some (.int .i64 a0_0) ∧ w'.cell? ⟨gb186, 1, none⟩ = some (.string a0_1) ∧ w'.cell? ⟨gb186, 2, none⟩ = some (.string a0_2) ∧ w'.cell? ⟨gb186, 3, none⟩ = some (.int .i64 a0_3) ∧ w'.cell? ⟨gb186, 4, none⟩ = some (.int .i64 a0_4) ∧ w'.cell? ⟨gb186, 5, none⟩ = some (.string a0_5)) (ds := []) (msk 12 0) (by kernel_rfl) rfl rfl ⟨(blk_cell BK186.out 0).trans rfl, (blk_cell BK186.out 1).trans rfl, (blk_cell BK186.out 2).trans rfl, (blk_cell BK186.out 3).trans rfl, (blk_cell BK186.out 4).trans rfl, (blk_cell BK186.out 5).trans rfl⟩ (fun hHeld => ?_); refine with_tabW impl_AskLine.tab16 impl_AskLine.bits16 (fun HT_ HW_ => ?_)
                generalize w67.drew = w68 at HO193 BK186 BK195 HB hHeld ⊢
                refine pure_ (i := 0) (N := some 69) (v := ?_) (a' := ?_) (msk 12 1) rfl rfl (any_of HT_.out (by kernel_rfl)) (fun _ _ _ h => h) (Or.inl ⟨by rfl, ?_⟩) ?_ ?_
                rotate_left
                ·intro w'
                 go_simp
                 with_reducible rfl
                rotate_left
                ·simp only [Act.put, List.setIfInBounds_toArray, List.set_cons_zero, List.set_cons_succ, i64_w, i32_w]
                 rfl
                refine pure_ (i := 1) (N := some 70) (v := ?_) (a' := ?_) (msk 12 2) rfl rfl (any_of HT_.out (by kernel_rfl)) (fun _ _ _ h => h) (Or.inl ⟨by rfl, ?_⟩) ?_ ?_
                rotate_left
                ·intro w'
                 go_simp
                 with_reducible rfl
                rotate_left
                ·simp only [Act.put, List.setIfInBounds_toArray, List.set_cons_zero, List.set_cons_succ, i64_w, i32_w]
                 rfl
                refine pure_ (i := 6) (N := some 75) (v := ?_) (a' := ?_) #[true, true, false, false, false, false, true, false, false, false, false, false] rfl rfl (any_of HT_.out (by kernel_rfl)) (fun _ _ _ h => h) (Or.inl ⟨by rfl, ?_⟩) ?_ ?_
                rotate_left
                ·intro w'
                 go_simp
                 with_reducible rfl
                rotate_left
                ·simp only [Act.put, List.setIfInBounds_toArray, List.set_cons_zero, List.set_cons_succ, i64_w, i32_w]
                 rfl
                refine take_ (i := 2) (N := some 71) (v := ?_) (a' := ?_) #[true, true, true, false, false, false, true, false, false, false, false, false] rfl rfl (take_ofW HT_.out HW_.out (by kernel_rfl)) (fun _ _ _ h => h) (Or.inl ⟨by rfl, ?_⟩) hHeld ?_ ?_
                rotate_left
                ·rintro w' ⟨s0, s1, s2, s3, s4, s5⟩
                 go_simp
                 with_reducible rfl
                rotate_left
                ·simp only [Act.put, List.setIfInBounds_toArray, List.set_cons_zero, List.set_cons_succ, i64_w, i32_w]
                 rfl
                refine take_ (i := 7) (N := some 76) (v := ?_) (a' := ?_) #[true, true, true, false, false, false, true, true, false, false, false, false] rfl rfl (take_ofW HT_.out HW_.out (by kernel_rfl)) (fun _ _ _ h => h) (Or.inl ⟨by rfl, ?_⟩) hHeld ?_ ?_
                rotate_left
                ·rintro w' ⟨s0, s1, s2, s3, s4, s5⟩
                 go_simp
                 with_reducible rfl
                rotate_left
                ·simp only [Act.put, List.setIfInBounds_toArray, List.set_cons_zero, List.set_cons_succ, i64_w, i32_w]
                 rfl
                refine one_ (i := 3) (N := some 72) #[true, true, true, true, false, false, true, true, false, false, false, false] rfl rfl (one_of HT_.out (by kernel_rfl)) (by decide) (fun K hK => ?_)
                refine goes_ Tryd.func57 (by kernel_rfl) rfl #[.int .i64 a0_3] (by rfl) rfl rfl (by (try simp only [List.map_toArray, List.map_cons, List.map_nil]); first | done | rfl | (simp only [List.length_drop, List.length_take]; rfl)) ?_
                with_reducible refine (impl_Decimal.calls a0_3 t199 _ ?side1 A61.out).mono ?_
                (case side1 => exact Glob.below HG.out (by repeat (first | (with_reducible first | exact HB.out | apply below_alloc | apply pw_below_drewN | apply below_drew1 | refine below_set ?_ GE186.out | refine below_set ?_ GE195.out) | exact HB.out)))
                rintro e w69 ⟨rfl, hb⟩
                refine ⟨_, rfl, ?_⟩
                have n0_ := Aside0.mk (Kd.R_below (by (with_reducible repeat (first | apply Kd.R_alloc | apply Kd.R_drewN | apply Kd.R_drew)); exact HO193.out) hb)
                have n1_ := Aside0.mk (blk_below (g := gb186) (o := .cells #[.int .i64 a0_0, .string a0_1, .string a0_2, .int .i64 a0_3, .int .i64 a0_4, .string a0_5] 26 (0, 0)) (by (with_reducible repeat (first | refine blk_drewN ?_ _ | refine blk_drew ?_ | refine blk_alloc ?_ _)); exact BK186.out) hb)
                have n2_ := Aside0.mk (blk_below (g := gb195) (o := .cells #[.int .i64 0, .string (⟨#[]⟩ : ByteArray), .string a0_2, .int .i64 a0_3, .int .i64 a0_4, .string a0_5] 26 (0, 0)) (by (with_reducible repeat (first | refine blk_drewN ?_ _ | refine blk_drew ?_ | refine blk_alloc ?_ _)); exact BK195.out) hb)
                have n3_ := Aside0.mk (below_step (by repeat (first | (with_reducible first | exact HB.out | apply below_alloc | apply pw_below_drewN | apply below_drew1 | refine below_set ?_ GE186.out | refine below_set ?_ GE195.out) | exact HB.out)) hb)
                clear HO193
                clear BK186
                clear BK195
                clear HB
                have HO193 := n0_
                have BK186 := n1_
                have BK195 := n2_
                have HB := n3_
                clear n0_ n1_ n2_ n3_
                (try clear hb)
                (try clear hb2)
                (try clear hk)
                (try clear hi)
                refine hK.out _ _ ⟨(blk_cell BK186.out 0).trans rfl, (blk_cell BK186.out 1).trans rfl, (blk_cell BK186.out 2).trans rfl, (blk_cell BK186.out 3).trans rfl, (blk_cell BK186.out 4).trans rfl, (blk_cell BK186.out 5).trans rfl⟩ (fun hHeld => ?_)
                clear hK K
                refine norm_ (a' := ?_) ?_ ?_
                rotate_left
                ·show Act.put _ (some 72) _ = _
                 simp only [Act.put, List.setIfInBounds_toArray, List.set_cons_zero, List.set_cons_succ, i64_w, i32_w]
                 rfl
                refine pure_ (i := 4) (N := some 73) (v := ?_) (a' := ?_) #[true, true, true, true, true, false, true, true, false, false, false, false] rfl rfl (any_of HT_.out (by kernel_rfl)) (fun _ _ _ h => h) (Or.inl ⟨by rfl, ?_⟩) ?_ ?_
                rotate_left
                ·intro w'
                 go_simp
                 with_reducible rfl
                rotate_left
                ·simp only [Act.put, List.setIfInBounds_toArray, List.set_cons_zero, List.set_cons_succ, i64_w, i32_w]
                 rfl
                refine pure_ (i := 5) (N := some 74) (v := ?_) (a' := ?_) (msk 12 8) rfl rfl (any_of HT_.out (by kernel_rfl)) (fun _ _ _ h => h) (Or.inl ⟨by rfl, ?_⟩) ?_ ?_
                rotate_left
                ·intro w'
                 go_simp
                 with_reducible rfl
                rotate_left
                ·simp only [Act.put, List.setIfInBounds_toArray, List.set_cons_zero, List.set_cons_succ, i64_w, i32_w]
                 rfl
                refine one_ (i := 8) (N := some 77) (msk 12 9) rfl rfl (one_of HT_.out (by kernel_rfl)) (by decide) (fun K hK => ?_)
                refine goes_ Tryd.func58 (by kernel_rfl) rfl #[.string a0_5] (by rfl) rfl rfl (by (try simp only [List.map_toArray, List.map_cons, List.map_nil]); first | done | rfl | (simp only [List.length_drop, List.length_take]; rfl)) ?_
                with_reducible refine (impl_hexOrDash.calls a0_5 t200 _ A64.out).mono ?_
                rintro e w70 ⟨rfl, hb⟩
                refine ⟨_, rfl, ?_⟩
                have n0_ := Aside0.mk (Kd.R_below (by (with_reducible repeat (first | apply Kd.R_alloc | apply Kd.R_drewN | apply Kd.R_drew)); exact HO193.out) hb)
                have n1_ := Aside0.mk (blk_below (g := gb186) (o := .cells #[.int .i64 a0_0, .string a0_1, .string a0_2, .int .i64 a0_3, .int .i64 a0_4, .string a0_5] 26 (0, 0)) (by (with_reducible repeat (first | refine blk_drewN ?_ _ | refine blk_drew ?_ | refine blk_alloc ?_ _)); exact BK186.out) hb)
                have n2_ := Aside0.mk (blk_below (g := gb195) (o := .cells #[.int .i64 0, .string (⟨#[]⟩ : ByteArray), .string a0_2, .int .i64 a0_3, .int .i64 a0_4, .string a0_5] 26 (0, 0)) (by (with_reducible repeat (first | refine blk_drewN ?_ _ | refine blk_drew ?_ | refine blk_alloc ?_ _)); exact BK195.out) hb)
                have n3_ := Aside0.mk (below_step (by repeat (first | (with_reducible first | exact HB.out | apply below_alloc | apply pw_below_drewN | apply below_drew1 | refine below_set ?_ GE186.out | refine below_set ?_ GE195.out) | exact HB.out)) hb)
                clear HO193
                clear BK186
                clear BK195
                clear HB
                have HO193 := n0_
                have BK186 := n1_
                have BK195 := n2_
                have HB := n3_
                clear n0_ n1_ n2_ n3_
                (try clear hb)
                (try clear hb2)
                (try clear hk)
                (try clear hi)
                refine hK.out _ _ ⟨(blk_cell BK186.out 0).trans rfl, (blk_cell BK186.out 1).trans rfl, (blk_cell BK186.out 2).trans rfl, (blk_cell BK186.out 3).trans rfl, (blk_cell BK186.out 4).trans rfl, (blk_cell BK186.out 5).trans rfl⟩ (fun hHeld => ?_)
                clear hK K
                refine norm_ (a' := ?_) ?_ ?_
                rotate_left
                ·show Act.put _ (some 77) _ = _
                 simp only [Act.put, List.setIfInBounds_toArray, List.set_cons_zero, List.set_cons_succ, i64_w, i32_w]
                 rfl
                refine pure_ (i := 9) (N := some 78) (v := ?_) (a' := ?_) (msk 12 10) rfl rfl (any_of HT_.out (by kernel_rfl)) (fun _ _ _ h => h) (Or.inl ⟨by rfl, ?_⟩) ?_ ?_
                rotate_left
                ·intro w'
                 go_simp
                 with_reducible rfl
                rotate_left
                ·simp only [Act.put, List.setIfInBounds_toArray, List.set_cons_zero, List.set_cons_succ, i64_w, i32_w]
                 rfl
                refine pure_ (i := 10) (N := some 79) (v := ?_) (a' := ?_) (msk 12 11) rfl rfl (any_of HT_.out (by kernel_rfl)) (fun _ _ _ h => h) (Or.inl ⟨by rfl, ?_⟩) ?_ ?_
                rotate_left
                ·intro w'
                 go_simp
                 with_reducible rfl
                rotate_left
                ·simp only [Act.put, List.setIfInBounds_toArray, List.set_cons_zero, List.set_cons_succ, i64_w, i32_w]
                 rfl
                refine pure_ (i := 11) (N := some 3) (v := ?_) (a' := ?_) (msk 12 12) rfl rfl (any_of HT_.out (by kernel_rfl)) (fun _ _ _ h => h) (Or.inl ⟨by rfl, ?_⟩) ?_ ?_
                rotate_left
                ·intro w'
                 go_simp
                 with_reducible rfl
                rotate_left
                ·simp only [Act.put, List.setIfInBounds_toArray, List.set_cons_zero, List.set_cons_succ, i64_w, i32_w]
                 rfl
                refine done_ (done_of HT_.out (by kernel_rfl)) ?_
                have hnb71 := NB195_186.out
                have hnc71 := NB186_195.out
                have hcz72_0 : w70.cell? ⟨gb195, 0, none⟩ = some (.int .i64 0) := (blk_cell BK195.out 0).trans rfl
                have hcz72_1 : w70.cell? ⟨gb195, 1, none⟩ = some (.string (⟨#[]⟩ : ByteArray)) := (blk_cell BK195.out 1).trans rfl
                have hcz72_2 : w70.cell? ⟨gb195, 2, none⟩ = some (.string a0_2) := (blk_cell BK195.out 2).trans rfl
                have hcz72_3 : w70.cell? ⟨gb195, 3, none⟩ = some (.int .i64 a0_3) := (blk_cell BK195.out 3).trans rfl
                have hcz72_4 : w70.cell? ⟨gb195, 4, none⟩ = some (.int .i64 a0_4) := (blk_cell BK195.out 4).trans rfl
                have hcz72_5 : w70.cell? ⟨gb195, 5, none⟩ = some (.string a0_5) := (blk_cell BK195.out 5).trans rfl
                have hfz72_0 := blk_frozen BK195.out 0
                have hfz72_1 := blk_frozen BK195.out 1
                have hfz72_2 := blk_frozen BK195.out 2
                have hfz72_3 := blk_frozen BK195.out 3
                have hfz72_4 := blk_frozen BK195.out 4
                have hfz72_5 := blk_frozen BK195.out 5
                try go_wp2
                go_meet
                case rel => exact ⟨_, ((((rdOf ByteArray.empty t191 a0_0) ++ (⟨#[32]⟩ : ByteArray)) ++ a0_1) ++ ((((⟨#[32]⟩ : ByteArray) ++ t199) ++ (⟨#[32]⟩ : ByteArray)) ++ t200)), (a0_2), (0), (a0_4), ((⟨#[]⟩ : ByteArray)), (by first | rfl | (simp; done) | (simp [*]; done)), H', ⟨by have := HJ1.out; first | omega | exact Nat.le_refl _⟩, ⟨by (with_reducible repeat (first | refine blk_drewN ?_ _ | refine blk_drew ?_ | refine blk_alloc ?_ _)); refine blk_far ?_ NB186_195.out _; (with_reducible repeat (first | refine blk_drewN ?_ _ | refine blk_drew ?_ | refine blk_alloc ?_ _)); refine blk_far ?_ NB186_195.out _; (with_reducible repeat (first | refine blk_drewN ?_ _ | refine blk_drew ?_ | refine blk_alloc ?_ _)); exact BK186.out⟩, ⟨by (with_reducible repeat (first | refine blk_drewN ?_ _ | refine blk_drew ?_ | refine blk_alloc ?_ _)); refine blk_put (cs := #[.int .i64 0, .string (⟨#[]⟩ : ByteArray), .string a0_2, .int .i64 0, .int .i64 a0_4, .string a0_5]) ?_ 5 _ rfl; (with_reducible repeat (first | refine blk_drewN ?_ _ | refine blk_drew ?_ | refine blk_alloc ?_ _)); refine blk_put (cs := #[.int .i64 0, .string (⟨#[]⟩ : ByteArray), .string a0_2, .int .i64 a0_3, .int .i64 a0_4, .string a0_5]) ?_ 3 _ rfl; (with_reducible repeat (first | refine blk_drewN ?_ _ | refine blk_drew ?_ | refine blk_alloc ?_ _)); exact BK195.out⟩, ⟨by repeat (first | (with_reducible first | exact HB.out | apply below_alloc | apply pw_below_drewN | apply below_drew1 | refine below_set ?_ GE186.out | refine below_set ?_ GE195.out) | exact HB.out)⟩⟩
               ·rw [if_neg c66] at H
                exact absurd H (by simp)
              ·rw [if_neg c65] at H
               exact absurd H (by simp)
             ·rw [if_neg c63] at H
              exact absurd H (by simp)
            ·rw [if_neg c62] at H
             exact absurd H (by simp)
           ·rw [if_neg c60] at H
            have c60b0 : (a0_0 == 7) = false := beq_eq_false_iff_ne.mpr c60
            have c60b1 : (a0_0 != 7) = true := bne_iff_ne.mpr c60
            by_cases c73 : a0_0 = 8
            ·rw [if_pos c73] at H
             have c73b0 : (a0_0 == 8) = true := beq_iff_eq.mpr c73
             have c73b1 : (a0_0 != 8) = false := bne_eq_false_iff_eq.mpr c73
             clear c73
             replace H := Option.bind_eq_some_iff.mp H
             obtain ⟨t201, A740, H⟩ := H
             replace H : (if 1 + t201.size ≤ 9223372036854775807 then (if (((rdOf ByteArray.empty t191 a0_0) ++ (⟨#[32]⟩ : ByteArray)) ++ a0_1).size + ((⟨#[32]⟩ : ByteArray) ++ t201).size ≤ 9223372036854775807 then (impl_AskLine.j1 kj1 ((((rdOf ByteArray.empty t191 a0_0) ++ (⟨#[32]⟩ : ByteArray)) ++ a0_1) ++ ((⟨#[32]⟩ : ByteArray) ++ t201)) 0 (⟨#[]⟩ : ByteArray) a0_2 a0_3 0 a0_5) else (none)) else (none)) = some r := H
             have A74 := Aside0.mk A740
             clear A740
             by_cases c75 : 1 + t201.size ≤ 9223372036854775807
             ·rw [if_pos c75] at H
              have c75b0 := eq_true c75
              have c75b1 : decide (1 + t201.size ≤ 9223372036854775807) = true := decide_eq_true c75
              try have c75b2 : (9223372036854775807 < 1 + t201.size) = False := eq_false (Nat.not_lt.2 c75)
              by_cases c76 : (((rdOf ByteArray.empty t191 a0_0) ++ (⟨#[32]⟩ : ByteArray)) ++ a0_1).size + ((⟨#[32]⟩ : ByteArray) ++ t201).size ≤ 9223372036854775807
              ·rw [if_pos c76] at H
               have c76b0 := eq_true c76
               have c76b1 : decide ((((rdOf ByteArray.empty t191 a0_0) ++ (⟨#[32]⟩ : ByteArray)) ++ a0_1).size + ((⟨#[32]⟩ : ByteArray) ++ t201).size ≤ 9223372036854775807) = true := decide_eq_true c76
               try (have c76b2 := eq_false (Nat.not_lt.2 c76); simp only [ByteArray.size_append, show (⟨#[32]⟩ : ByteArray).size = 1 from rfl] at c76b2)
               have H' := Aside0.mk H
               clear H
               have hnb77 := NB186_195.out
               have hnc77 := NB195_186.out
               have hcz78_0 : w33.cell? ⟨gb186, 0, none⟩ = some (.int .i64 a0_0) := (blk_cell BK186.out 0).trans rfl
               have hcz78_1 : w33.cell? ⟨gb186, 1, none⟩ = some (.string a0_1) := (blk_cell BK186.out 1).trans rfl
               have hcz78_2 : w33.cell? ⟨gb186, 2, none⟩ = some (.string a0_2) := (blk_cell BK186.out 2).trans rfl
               have hcz78_3 : w33.cell? ⟨gb186, 3, none⟩ = some (.int .i64 a0_3) := (blk_cell BK186.out 3).trans rfl
               have hcz78_4 : w33.cell? ⟨gb186, 4, none⟩ = some (.int .i64 a0_4) := (blk_cell BK186.out 4).trans rfl
               have hcz78_5 : w33.cell? ⟨gb186, 5, none⟩ = some (.string a0_5) := (blk_cell BK186.out 5).trans rfl
               have hfz78_0 := blk_frozen BK186.out 0
               have hfz78_1 := blk_frozen BK186.out 1
               have hfz78_2 := blk_frozen BK186.out 2
               have hfz78_3 := blk_frozen BK186.out 3
               have hfz78_4 := blk_frozen BK186.out 4
               have hfz78_5 := blk_frozen BK186.out 5
               go_wp2_with (first | ((with_reducible refine gate_callee (f := 57) rfl ?_); refine goesL_ (some 87) rfl rfl Tryd.func57 (by kernel_rfl) rfl #[.int .i64 a0_4] rfl (by (try simp only [List.map_toArray, List.map_cons, List.map_nil]); first | done | rfl | (simp only [List.length_drop, List.length_take]; rfl)) ?_; (with_reducible refine (impl_Decimal.calls a0_4 t201 _ ?side1 A74.out).mono ?_); (case side1 => exact Glob.below HG.out (by repeat (first | (with_reducible first | exact HB.out | apply below_alloc | apply pw_below_drewN | apply below_drew1 | refine below_set ?_ GE186.out | refine below_set ?_ GE195.out) | exact HB.out))); rintro e w79 ⟨rfl, hb⟩; refine ⟨_, rfl, ?_⟩; have n0_ := Aside0.mk (Kd.R_below (by (with_reducible repeat (first | apply Kd.R_alloc | apply Kd.R_drewN | apply Kd.R_drew)); exact (Kd.R_mono (Kd.R_far (p := ⟨gb195, 1, none⟩) (Kd.R_far (p := ⟨gb195, 0, none⟩) (Kd.R_far (p := ⟨gb195, 5, none⟩) (Kd.R_far (p := ⟨gb195, 4, none⟩) (Kd.R_far (p := ⟨gb195, 3, none⟩) (Kd.R_far (p := ⟨gb195, 2, none⟩) (Kd.R_far (p := ⟨gb195, 1, none⟩) (Kd.R_far (p := ⟨gb195, 0, none⟩) (Kd.R_types HO193.out BK195.out (by decide)) (fun _ hk => hk.2) (.int .i64 a0_0)) (fun _ hk => hk.2) (.string a0_1)) (fun _ hk => hk.2) (.string a0_2)) (fun _ hk => hk.2) (.int .i64 a0_3)) (fun _ hk => hk.2) (.int .i64 a0_4)) (fun _ hk => hk.2) (.string a0_5)) (fun _ hk => hk.2) (.int .i64 0)) (fun _ hk => hk.2) (.string (⟨#[]⟩ : ByteArray))) (fun _ h_ => h_.1))) hb); have n1_ := Aside0.mk (blk_below (g := gb186) (o := .cells #[.int .i64 a0_0, .string a0_1, .string a0_2, .int .i64 a0_3, .int .i64 a0_4, .string a0_5] 26 (0, 0)) (by (with_reducible repeat (first | refine blk_drewN ?_ _ | refine blk_drew ?_ | refine blk_alloc ?_ _)); refine blk_far ?_ NB186_195.out _; (with_reducible repeat (first | refine blk_drewN ?_ _ | refine blk_drew ?_ | refine blk_alloc ?_ _)); refine blk_far ?_ NB186_195.out _; (with_reducible repeat (first | refine blk_drewN ?_ _ | refine blk_drew ?_ | refine blk_alloc ?_ _)); refine blk_far ?_ NB186_195.out _; (with_reducible repeat (first | refine blk_drewN ?_ _ | refine blk_drew ?_ | refine blk_alloc ?_ _)); refine blk_far ?_ NB186_195.out _; (with_reducible repeat (first | refine blk_drewN ?_ _ | refine blk_drew ?_ | refine blk_alloc ?_ _)); refine blk_far ?_ NB186_195.out _; (with_reducible repeat (first | refine blk_drewN ?_ _ | refine blk_drew ?_ | refine blk_alloc ?_ _)); refine blk_far ?_ NB186_195.out _; (with_reducible repeat (first | refine blk_drewN ?_ _ | refine blk_drew ?_ | refine blk_alloc ?_ _)); refine blk_far ?_ NB186_195.out _; (with_reducible repeat (first | refine blk_drewN ?_ _ | refine blk_drew ?_ | refine blk_alloc ?_ _)); refine blk_far ?_ NB186_195.out _; (with_reducible repeat (first | refine blk_drewN ?_ _ | refine blk_drew ?_ | refine blk_alloc ?_ _)); exact BK186.out) hb); have n2_ := Aside0.mk (blk_below (g := gb195) (o := .cells #[.int .i64 0, .string (⟨#[]⟩ : ByteArray), .string a0_2, .int .i64 a0_3, .int .i64 a0_4, .string a0_5] 26 (0, 0)) (by (with_reducible repeat (first | refine blk_drewN ?_ _ | refine blk_drew ?_ | refine blk_alloc ?_ _)); refine blk_put (cs := #[.int .i64 0, .string a0_1, .string a0_2, .int .i64 a0_3, .int .i64 a0_4, .string a0_5]) ?_ 1 _ rfl; (with_reducible repeat (first | refine blk_drewN ?_ _ | refine blk_drew ?_ | refine blk_alloc ?_ _)); refine blk_put (cs := #[.int .i64 a0_0, .string a0_1, .string a0_2, .int .i64 a0_3, .int .i64 a0_4, .string a0_5]) ?_ 0 _ rfl; (with_reducible repeat (first | refine blk_drewN ?_ _ | refine blk_drew ?_ | refine blk_alloc ?_ _)); refine blk_put (cs := #[.int .i64 a0_0, .string a0_1, .string a0_2, .int .i64 a0_3, .int .i64 a0_4, .string (⟨#[]⟩ : ByteArray)]) ?_ 5 _ rfl; (with_reducible repeat (first | refine blk_drewN ?_ _ | refine blk_drew ?_ | refine blk_alloc ?_ _)); refine blk_put (cs := #[.int .i64 a0_0, .string a0_1, .string a0_2, .int .i64 a0_3, .int .i64 0, .string (⟨#[]⟩ : ByteArray)]) ?_ 4 _ rfl; (with_reducible repeat (first | refine blk_drewN ?_ _ | refine blk_drew ?_ | refine blk_alloc ?_ _)); refine blk_put (cs := #[.int .i64 a0_0, .string a0_1, .string a0_2, .int .i64 0, .int .i64 0, .string (⟨#[]⟩ : ByteArray)]) ?_ 3 _ rfl; (with_reducible repeat (first | refine blk_drewN ?_ _ | refine blk_drew ?_ | refine blk_alloc ?_ _)); refine blk_put (cs := #[.int .i64 a0_0, .string a0_1, .string (⟨#[]⟩ : ByteArray), .int .i64 0, .int .i64 0, .string (⟨#[]⟩ : ByteArray)]) ?_ 2 _ rfl; (with_reducible repeat (first | refine blk_drewN ?_ _ | refine blk_drew ?_ | refine blk_alloc ?_ _)); refine blk_put (cs := #[.int .i64 a0_0, .string (⟨#[]⟩ : ByteArray), .string (⟨#[]⟩ : ByteArray), .int .i64 0, .int .i64 0, .string (⟨#[]⟩ : ByteArray)]) ?_ 1 _ rfl; (with_reducible repeat (first | refine blk_drewN ?_ _ | refine blk_drew ?_ | refine blk_alloc ?_ _)); refine blk_put (cs := #[.int .i64 0, .string (⟨#[]⟩ : ByteArray), .string (⟨#[]⟩ : ByteArray), .int .i64 0, .int .i64 0, .string (⟨#[]⟩ : ByteArray)]) ?_ 0 _ rfl; (with_reducible repeat (first | refine blk_drewN ?_ _ | refine blk_drew ?_ | refine blk_alloc ?_ _)); exact BK195.out) hb); have n3_ := Aside0.mk (below_step (by repeat (first | (with_reducible first | exact HB.out | apply below_alloc | apply pw_below_drewN | apply below_drew1 | refine below_set ?_ GE186.out | refine below_set ?_ GE195.out) | exact HB.out)) hb); clear HO193; clear BK186; clear BK195; clear HB; have HO193 := n0_; have BK186 := n1_; have BK195 := n2_; have HB := n3_; clear n0_ n1_ n2_ n3_; (try clear hb); (try clear hb2); (try clear hk); (try clear hi); have hcz80_0 : w79.cell? ⟨gb195, 0, none⟩ = some (.int .i64 0) := (blk_cell BK195.out 0).trans rfl; have hcz80_1 : w79.cell? ⟨gb195, 1, none⟩ = some (.string (⟨#[]⟩ : ByteArray)) := (blk_cell BK195.out 1).trans rfl; have hcz80_2 : w79.cell? ⟨gb195, 2, none⟩ = some (.string a0_2) := (blk_cell BK195.out 2).trans rfl; have hcz80_3 : w79.cell? ⟨gb195, 3, none⟩ = some (.int .i64 a0_3) := (blk_cell BK195.out 3).trans rfl; have hcz80_4 : w79.cell? ⟨gb195, 4, none⟩ = some (.int .i64 a0_4) := (blk_cell BK195.out 4).trans rfl; have hcz80_5 : w79.cell? ⟨gb195, 5, none⟩ = some (.string a0_5) := (blk_cell BK195.out 5).trans rfl; have hfz80_0 := blk_frozen BK195.out 0; have hfz80_1 := blk_frozen BK195.out 1; have hfz80_2 := blk_frozen BK195.out 2; have hfz80_3 := blk_frozen BK195.out 3; have hfz80_4 := blk_frozen BK195.out 4; have hfz80_5 := blk_frozen BK195.out 5))
               go_meet
               case rel => exact ⟨_, ((((rdOf ByteArray.empty t191 a0_0) ++ (⟨#[32]⟩ : ByteArray)) ++ a0_1) ++ ((⟨#[32]⟩ : ByteArray) ++ t201)), (a0_2), (a0_3), (0), (a0_5), (by first | rfl | (simp; done) | (simp [*]; done)), H', ⟨by have := HJ1.out; first | omega | exact Nat.le_refl _⟩, ⟨by (with_reducible repeat (first | refine blk_drewN ?_ _ | refine blk_drew ?_ | refine blk_alloc ?_ _)); refine blk_far ?_ NB186_195.out _; (with_reducible repeat (first | refine blk_drewN ?_ _ | refine blk_drew ?_ | refine blk_alloc ?_ _)); exact BK186.out⟩, ⟨by (with_reducible repeat (first | refine blk_drewN ?_ _ | refine blk_drew ?_ | refine blk_alloc ?_ _)); refine blk_put (cs := #[.int .i64 0, .string (⟨#[]⟩ : ByteArray), .string a0_2, .int .i64 a0_3, .int .i64 a0_4, .string a0_5]) ?_ 4 _ rfl; (with_reducible repeat (first | refine blk_drewN ?_ _ | refine blk_drew ?_ | refine blk_alloc ?_ _)); exact BK195.out⟩, ⟨by repeat (first | (with_reducible first | exact HB.out | apply below_alloc | apply pw_below_drewN | apply below_drew1 | refine below_set ?_ GE186.out | refine below_set ?_ GE195.out) | exact HB.out)⟩⟩
              ·rw [if_neg c76] at H
               exact absurd H (by simp)
             ·rw [if_neg c75] at H
              exact absurd H (by simp)
            ·rw [if_neg c73] at H
             have c73b0 : (a0_0 == 8) = false := beq_eq_false_iff_ne.mpr c73
             have c73b1 : (a0_0 != 8) = true := bne_iff_ne.mpr c73
             have H' := Aside0.mk H
             clear H
             go_wp2
             go_meet
             case rel => exact ⟨_, (((rdOf ByteArray.empty t191 a0_0) ++ (⟨#[32]⟩ : ByteArray)) ++ a0_1), (a0_2), (a0_3), (a0_4), (a0_5), (by first | rfl | (simp; done) | (simp [*]; done)), H', ⟨by have := HJ1.out; first | omega | exact Nat.le_refl _⟩, ⟨by (with_reducible repeat (first | refine blk_drewN ?_ _ | refine blk_drew ?_ | refine blk_alloc ?_ _)); refine blk_far ?_ NB186_195.out _; (with_reducible repeat (first | refine blk_drewN ?_ _ | refine blk_drew ?_ | refine blk_alloc ?_ _)); refine blk_far ?_ NB186_195.out _; (with_reducible repeat (first | refine blk_drewN ?_ _ | refine blk_drew ?_ | refine blk_alloc ?_ _)); refine blk_far ?_ NB186_195.out _; (with_reducible repeat (first | refine blk_drewN ?_ _ | refine blk_drew ?_ | refine blk_alloc ?_ _)); refine blk_far ?_ NB186_195.out _; (with_reducible repeat (first | refine blk_drewN ?_ _ | refine blk_drew ?_ | refine blk_alloc ?_ _)); refine blk_far ?_ NB186_195.out _; (with_reducible repeat (first | refine blk_drewN ?_ _ | refine blk_drew ?_ | refine blk_alloc ?_ _)); refine blk_far ?_ NB186_195.out _; (with_reducible repeat (first | refine blk_drewN ?_ _ | refine blk_drew ?_ | refine blk_alloc ?_ _)); refine blk_far ?_ NB186_195.out _; (with_reducible repeat (first | refine blk_drewN ?_ _ | refine blk_drew ?_ | refine blk_alloc ?_ _)); refine blk_far ?_ NB186_195.out _; (with_reducible repeat (first | refine blk_drewN ?_ _ | refine blk_drew ?_ | refine blk_alloc ?_ _)); exact BK186.out⟩, ⟨by (with_reducible repeat (first | refine blk_drewN ?_ _ | refine blk_drew ?_ | refine blk_alloc ?_ _)); refine blk_put (cs := #[.int .i64 0, .string a0_1, .string a0_2, .int .i64 a0_3, .int .i64 a0_4, .string a0_5]) ?_ 1 _ rfl; (with_reducible repeat (first | refine blk_drewN ?_ _ | refine blk_drew ?_ | refine blk_alloc ?_ _)); refine blk_put (cs := #[.int .i64 a0_0, .string a0_1, .string a0_2, .int .i64 a0_3, .int .i64 a0_4, .string a0_5]) ?_ 0 _ rfl; (with_reducible repeat (first | refine blk_drewN ?_ _ | refine blk_drew ?_ | refine blk_alloc ?_ _)); refine blk_put (cs := #[.int .i64 a0_0, .string a0_1, .string a0_2, .int .i64 a0_3, .int .i64 a0_4, .string (⟨#[]⟩ : ByteArray)]) ?_ 5 _ rfl; (with_reducible repeat (first | refine blk_drewN ?_ _ | refine blk_drew ?_ | refine blk_alloc ?_ _)); refine blk_put (cs := #[.int .i64 a0_0, .string a0_1, .string a0_2, .int .i64 a0_3, .int .i64 0, .string (⟨#[]⟩ : ByteArray)]) ?_ 4 _ rfl; (with_reducible repeat (first | refine blk_drewN ?_ _ | refine blk_drew ?_ | refine blk_alloc ?_ _)); refine blk_put (cs := #[.int .i64 a0_0, .string a0_1, .string a0_2, .int .i64 0, .int .i64 0, .string (⟨#[]⟩ : ByteArray)]) ?_ 3 _ rfl; (with_reducible repeat (first | refine blk_drewN ?_ _ | refine blk_drew ?_ | refine blk_alloc ?_ _)); refine blk_put (cs := #[.int .i64 a0_0, .string a0_1, .string (⟨#[]⟩ : ByteArray), .int .i64 0, .int .i64 0, .string (⟨#[]⟩ : ByteArray)]) ?_ 2 _ rfl; (with_reducible repeat (first | refine blk_drewN ?_ _ | refine blk_drew ?_ | refine blk_alloc ?_ _)); refine blk_put (cs := #[.int .i64 a0_0, .string (⟨#[]⟩ : ByteArray), .string (⟨#[]⟩ : ByteArray), .int .i64 0, .int .i64 0, .string (⟨#[]⟩ : ByteArray)]) ?_ 1 _ rfl; (with_reducible repeat (first | refine blk_drewN ?_ _ | refine blk_drew ?_ | refine blk_alloc ?_ _)); refine blk_put (cs := #[.int .i64 0, .string (⟨#[]⟩ : ByteArray), .string (⟨#[]⟩ : ByteArray), .int .i64 0, .int .i64 0, .string (⟨#[]⟩ : ByteArray)]) ?_ 0 _ rfl; (with_reducible repeat (first | refine blk_drewN ?_ _ | refine blk_drew ?_ | refine blk_alloc ?_ _)); exact BK195.out⟩, ⟨by repeat (first | (with_reducible first | exact HB.out | apply below_alloc | apply pw_below_drewN | apply below_drew1 | refine below_set ?_ GE186.out | refine below_set ?_ GE195.out) | exact HB.out)⟩⟩
        case rest =>
         clear HC28
         try clear p2
         try clear c3
         try clear c4
         try clear c5
         try clear c6
         try clear c7
         try clear c37
         try clear c37b0
         try clear c37b1
         try clear c39
         try clear c40
         try clear c40b0
         try clear c40b1
         try clear c40b2
         try clear c41
         try clear c41b0
         try clear c41b1
         try clear c41b2
         try clear c42
         try clear c45
         try clear c47
         try clear c47b0
         try clear c47b1
         try clear c49
         try clear c49b0
         try clear c49b1
         try clear c49b2
         try clear c50
         try clear c50b0
         try clear c50b1
         try clear c50b2
         try clear c52
         try clear c52b0
         try clear c52b1
         try clear c52b2
         try clear c53
         try clear c53b0
         try clear c53b1
         try clear c53b2
         try clear c54
         try clear c57
         try clear c58
         try clear c60
         try clear c60b0
         try clear c60b1
         try clear c62
         try clear c62b0
         try clear c62b1
         try clear c62b2
         try clear c63
         try clear c63b0
         try clear c63b1
         try clear c63b2
         try clear c65
         try clear c65b0
         try clear c65b1
         try clear c65b2
         try clear c66
         try clear c66b0
         try clear c66b1
         try clear c66b2
         try clear c71
         try clear c73
         try clear c73b0
         try clear c73b1
         try clear c75
         try clear c75b0
         try clear c75b1
         try clear c75b2
         try clear c76
         try clear c76b0
         try clear c76b1
         try clear c76b2
         try clear c77
         try clear hcz43_0
         try clear hcz43_1
         try clear hcz43_2
         try clear hcz43_3
         try clear hcz43_4
         try clear hcz43_5
         try clear hcz44_0
         try clear hcz44_1
         try clear hcz44_2
         try clear hcz44_3
         try clear hcz44_4
         try clear hcz44_5
         try clear hcz46_0
         try clear hcz46_1
         try clear hcz46_2
         try clear hcz46_3
         try clear hcz46_4
         try clear hcz46_5
         try clear hcz59_0
         try clear hcz59_1
         try clear hcz59_2
         try clear hcz59_3
         try clear hcz59_4
         try clear hcz59_5
         try clear hcz72_0
         try clear hcz72_1
         try clear hcz72_2
         try clear hcz72_3
         try clear hcz72_4
         try clear hcz72_5
         try clear hcz78_0
         try clear hcz78_1
         try clear hcz78_2
         try clear hcz78_3
         try clear hcz78_4
         try clear hcz78_5
         try clear hcz80_0
         try clear hcz80_1
         try clear hcz80_2
         try clear hcz80_3
         try clear hcz80_4
         try clear hcz80_5
         try clear hfz43_0
         try clear hfz43_1
         try clear hfz43_2
         try clear hfz43_3
         try clear hfz43_4
         try clear hfz43_5
         try clear hfz44_0
         try clear hfz44_1
         try clear hfz44_2
         try clear hfz44_3
         try clear hfz44_4
         try clear hfz44_5
         try clear hfz46_0
         try clear hfz46_1
         try clear hfz46_2
         try clear hfz46_3
         try clear hfz46_4
         try clear hfz46_5
         try clear hfz59_0
         try clear hfz59_1
         try clear hfz59_2
         try clear hfz59_3
         try clear hfz59_4
         try clear hfz59_5
         try clear hfz72_0
         try clear hfz72_1
         try clear hfz72_2
         try clear hfz72_3
         try clear hfz72_4
         try clear hfz72_5
         try clear hfz78_0
         try clear hfz78_1
         try clear hfz78_2
         try clear hfz78_3
         try clear hfz78_4
         try clear hfz78_5
         try clear hfz80_0
         try clear hfz80_1
         try clear hfz80_2
         try clear hfz80_3
         try clear hfz80_4
         try clear hfz80_5
         obtain ⟨kq, x3_27, x196002_27, x196003_27, x196004_27, x196005_27, rfl, HA, HJ27, BK186, BK195, HB⟩ := hcut
         cases kq with
         | zero => exact absurd HA.out (by simp [impl_AskLine.j1])
         | succ kj27 =>
          have H := HA.out
          clear HA
          simp only [impl_AskLine.j1] at H
          by_cases c81 : (!((0 : Int) == 0) || (!((⟨#[]⟩ : ByteArray).toList == ([] : List UInt8)) || (!(x196002_27.toList == ([] : List UInt8)) || (!(x196003_27 == 0) || (!(x196004_27 == 0) || (!(x196005_27.toList == ([] : List UInt8)))))))) = true
          ·rw [if_pos c81] at H
           have c81b0 : (!((0 : Int) == 0) || (!((⟨#[]⟩ : ByteArray).toList == ([] : List UInt8)) || (!(x196002_27.toList == ([] : List UInt8)) || (!(x196003_27 == 0) || (!(x196004_27 == 0) || (!(x196005_27.toList == ([] : List UInt8)))))))) = true := c81
           clear c81
           obtain rfl := Option.some.inj H
           have hnb82 := NB195_186.out
           have hnc82 := NB186_195.out
           have hcz83_0 : wc.cell? ⟨gb195, 0, none⟩ = some (.int .i64 0) := (blk_cell BK195.out 0).trans rfl
           have hcz83_1 : wc.cell? ⟨gb195, 1, none⟩ = some (.string (⟨#[]⟩ : ByteArray)) := (blk_cell BK195.out 1).trans rfl
           have hcz83_2 : wc.cell? ⟨gb195, 2, none⟩ = some (.string x196002_27) := (blk_cell BK195.out 2).trans rfl
           have hcz83_3 : wc.cell? ⟨gb195, 3, none⟩ = some (.int .i64 x196003_27) := (blk_cell BK195.out 3).trans rfl
           have hcz83_4 : wc.cell? ⟨gb195, 4, none⟩ = some (.int .i64 x196004_27) := (blk_cell BK195.out 4).trans rfl
           have hcz83_5 : wc.cell? ⟨gb195, 5, none⟩ = some (.string x196005_27) := (blk_cell BK195.out 5).trans rfl
           have hfz83_0 := blk_frozen BK195.out 0
           have hfz83_1 := blk_frozen BK195.out 1
           have hfz83_2 := blk_frozen BK195.out 2
           have hfz83_3 := blk_frozen BK195.out 3
           have hfz83_4 := blk_frozen BK195.out 4
           have hfz83_5 := blk_frozen BK195.out 5
           go_wp2
           rotate_left
           ·rename_i h9
            exact (zask_t c81b0 h9).elim
           go_ret
           exact ⟨by first | rfl | (simp [errW_none, errW_some] <;> rfl) | (simp [*, errW_none, errW_some] <;> rfl), by repeat (first | (with_reducible first | exact HB.out | apply below_alloc | apply pw_below_drewN | apply below_drew1 | refine below_set ?_ GE186.out | refine below_set ?_ GE195.out) | exact HB.out)⟩
          ·rw [if_neg c81] at H
           have c81b0 : (!((0 : Int) == 0) || (!((⟨#[]⟩ : ByteArray).toList == ([] : List UInt8)) || (!(x196002_27.toList == ([] : List UInt8)) || (!(x196003_27 == 0) || (!(x196004_27 == 0) || (!(x196005_27.toList == ([] : List UInt8)))))))) = false := by simpa using c81
           clear c81
           obtain rfl := Option.some.inj H
           have hnb84 := NB195_186.out
           have hnc84 := NB186_195.out
           have hcz85_0 : wc.cell? ⟨gb195, 0, none⟩ = some (.int .i64 0) := (blk_cell BK195.out 0).trans rfl
           have hcz85_1 : wc.cell? ⟨gb195, 1, none⟩ = some (.string (⟨#[]⟩ : ByteArray)) := (blk_cell BK195.out 1).trans rfl
           have hcz85_2 : wc.cell? ⟨gb195, 2, none⟩ = some (.string x196002_27) := (blk_cell BK195.out 2).trans rfl
           have hcz85_3 : wc.cell? ⟨gb195, 3, none⟩ = some (.int .i64 x196003_27) := (blk_cell BK195.out 3).trans rfl
           have hcz85_4 : wc.cell? ⟨gb195, 4, none⟩ = some (.int .i64 x196004_27) := (blk_cell BK195.out 4).trans rfl
           have hcz85_5 : wc.cell? ⟨gb195, 5, none⟩ = some (.string x196005_27) := (blk_cell BK195.out 5).trans rfl
           have hfz85_0 := blk_frozen BK195.out 0
           have hfz85_1 := blk_frozen BK195.out 1
           have hfz85_2 := blk_frozen BK195.out 2
           have hfz85_3 := blk_frozen BK195.out 3
           have hfz85_4 := blk_frozen BK195.out 4
           have hfz85_5 := blk_frozen BK195.out 5
           go_wp2
           ·rename_i h9
            exact (zask_f c81b0 h9).elim
           go_ret
           exact ⟨by first | rfl | (simp [errW_none, errW_some] <;> rfl) | (simp [*, errW_none, errW_some] <;> rfl), by repeat (first | (with_reducible first | exact HB.out | apply below_alloc | apply pw_below_drewN | apply below_drew1 | refine below_set ?_ GE186.out | refine below_set ?_ GE195.out) | exact HB.out)⟩
       ·rw [if_neg c27] at H
        exact absurd H (by simp)
      ·rw [if_neg c26] at H
       exact absurd H (by simp)
     ·rw [if_neg c25] at H
      exact absurd H (by simp)
    ·rw [if_neg c24] at H
     exact absurd H (by simp)

end Go.Proofs.YtggfonljcbmjmaaDoor.PFnExactActLine
