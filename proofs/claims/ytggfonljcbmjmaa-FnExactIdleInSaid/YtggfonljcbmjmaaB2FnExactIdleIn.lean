import Derived.Test.YtggfonljcbmjmaaPFnExactIdleInx4
import Derived.Test.YtggfonljcbmjmaaPFnExactIdleInx5
import Derived.Test.YtggfonljcbmjmaaPFnExactIdleInx7
namespace Go.Proofs.Ytggfonljcbmjmaa.PFnExactIdleIn
open Go.RowKit Go.Proofs.YtggfonljcbmjmaaW.PrintWords Go.Proofs.YtggfonljcbmjmaaW.PrintLast Go.Proofs.YtggfonljcbmjmaaW.PrintMore
set_option linter.unusedVariables false
set_option linter.unusedSimpArgs false
set_option linter.unusedSectionVars false

/-! ### laws.eqGeo, of equal arguments -/
def laws_eqGeo.f (a0_0 : Int) (a0_1 : Int) (a0_2 : Int) (a0_3 : Int) (a1_0 : Int) (a1_1 : Int) (a1_2 : Int) (a1_3 : Int) : Option Bool := if a0_0 = a1_0 ∧ a0_1 = a1_1 ∧ a0_2 = a1_2 ∧ a0_3 = a1_3 then some true else none
set_option maxHeartbeats 4000000 in
set_option maxRecDepth 100000 in
theorem laws_eqGeo.calls (a0_0 : Int) (a0_1 : Int) (a0_2 : Int) (a0_3 : Int) (a1_0 : Int) (a1_1 : Int) (a1_2 : Int) (a1_3 : Int) (r : Bool) (w : World) (h : laws_eqGeo.f a0_0 a0_1 a0_2 a0_3 a1_0 a1_1 a1_2 a1_3 = some r) :
    Calls Try.prog 45 #[.agg #[.int .i64 a0_0, .int .i64 a0_1, .int .i64 a0_2, .int .i64 a0_3], .agg #[.int .i64 a1_0, .int .i64 a1_1, .int .i64 a1_2, .int .i64 a1_3]] w fun e w' => e = .returned (.bool r) ∧ Below w.heap.size w w' := by
  unfold laws_eqGeo.f at h
  by_cases hq : a0_0 = a1_0 ∧ a0_1 = a1_1 ∧ a0_2 = a1_2 ∧ a0_3 = a1_3
  case neg => rw [if_neg hq] at h; cases h
  rw [if_pos hq] at h
  obtain rfl := Option.some.inj h
  obtain ⟨rfl, rfl, rfl, rfl⟩ := hq
  clear h
  have hu_Geo := Try.underlying45
  have BA := Aside0.mk (blk_alloc (blk_new w (.cells #[.int .i64 a0_0, .int .i64 a0_1, .int .i64 a0_2, .int .i64 a0_3] 45)) (.cells #[.int .i64 a0_0, .int .i64 a0_1, .int .i64 a0_2, .int .i64 a0_3] 45))
  have BB := Aside0.mk (blk_new (w.alloc (.cells #[.int .i64 a0_0, .int .i64 a0_1, .int .i64 a0_2, .int .i64 a0_3] 45)) (.cells #[.int .i64 a0_0, .int .i64 a0_1, .int .i64 a0_2, .int .i64 a0_3] 45))
  have HB := Aside0.mk (below_alloc (below_alloc (Below.refl w.heap.size w) (.cells #[.int .i64 a0_0, .int .i64 a0_1, .int .i64 a0_2, .int .i64 a0_3] 45)) (.cells #[.int .i64 a0_0, .int .i64 a0_1, .int .i64 a0_2, .int .i64 a0_3] 45))
  have hg2 : (w.alloc (.cells #[.int .i64 a0_0, .int .i64 a0_1, .int .i64 a0_2, .int .i64 a0_3] 45)).heap.size = w.heap.size + 1 := by simp
  rw [hg2] at BB
  clear hg2
  go_enter Try.func45, Try.ntmps45
  go_wp2
  go_ret
  exact ⟨rfl, HB.out⟩


/-! ### laws.eqSystem, of equal arguments -/
def laws_eqSystem.f (k : Nat) (a0_0 : Int) (a0_1 : Int) (a0_2 : Int) (a0_3 : Int) (a0_4 : ByteArray) (l0_5 : List (S112)) (l0_6 : List (S93)) (l0_7 : List (S131)) (a1_0 : Int) (a1_1 : Int) (a1_2 : Int) (a1_3 : Int) (a1_4 : ByteArray) (l1_5 : List (S112)) (l1_6 : List (S93)) (l1_7 : List (S131)) : Option Bool := (laws_eqGeo.f a0_0 a0_1 a0_2 a0_3 a1_0 a1_1 a1_2 a1_3).bind fun t0 => ((laws_eqMemory.f k a0_4 l0_5 a1_4 l1_5).bind fun t1 => ((laws_eqJobS.f k l0_6 l1_6).bind fun t2 => ((laws_eqSealingS.f k l0_7 l1_7).bind fun t3 => (if t0 = true ∧ t1 = true ∧ t2 = true ∧ t3 = true then some true else none))))
theorem laws_eqSystem.mono : ∀ y0 y1 y2 y3 y4 y5 y6 y7 y8 y9 y10 y11 y12 y13 y14 y15 k, LeO (laws_eqSystem.f k y0 y1 y2 y3 y4 y5 y6 y7 y8 y9 y10 y11 y12 y13 y14 y15) (laws_eqSystem.f (k + 1) y0 y1 y2 y3 y4 y5 y6 y7 y8 y9 y10 y11 y12 y13 y14 y15) := by
  intro y0 y1 y2 y3 y4 y5 y6 y7 y8 y9 y10 y11 y12 y13 y14 y15 k
  unfold laws_eqSystem.f
  repeat' first
  | (with_reducible exact laws_eqMemory.mono _ _ _ _ _ )
  | (with_reducible exact laws_eqJobS.mono _ _ _ )
  | (with_reducible exact laws_eqSealingS.mono _ _ _ )
  | (with_reducible exact LeO.refl _)
  | (with_reducible refine LeO.bind ?_ (fun _ => ?_))
set_option maxHeartbeats 4000000 in
set_option maxRecDepth 100000 in
theorem laws_eqSystem.calls (k : Nat) (a0_0 : Int) (a0_1 : Int) (a0_2 : Int) (a0_3 : Int) (a0_4 : ByteArray) (A0_5 : Option Addr) (c0_5 : Nat) (l0_5 : List (S112)) (A0_6 : Option Addr) (c0_6 : Nat) (l0_6 : List (S93)) (A0_7 : Option Addr) (c0_7 : Nat) (l0_7 : List (S131)) (a1_0 : Int) (a1_1 : Int) (a1_2 : Int) (a1_3 : Int) (a1_4 : ByteArray) (A1_5 : Option Addr) (c1_5 : Nat) (l1_5 : List (S112)) (A1_6 : Option Addr) (c1_6 : Nat) (l1_6 : List (S93)) (A1_7 : Option Addr) (c1_7 : Nat) (l1_7 : List (S131)) (r : Bool) (w : World) (hr0_5 : Kd.C k112 w A0_5 l0_5.length l0_5) (hc0_5 : l0_5.length ≤ c0_5) (hr0_6 : Kd.C k93 w A0_6 l0_6.length l0_6) (hc0_6 : l0_6.length ≤ c0_6) (hr0_7 : Kd.C k131 w A0_7 l0_7.length l0_7) (hc0_7 : l0_7.length ≤ c0_7) (hr1_5 : Kd.C k112 w A1_5 l1_5.length l1_5) (hc1_5 : l1_5.length ≤ c1_5) (hr1_6 : Kd.C k93 w A1_6 l1_6.length l1_6) (hc1_6 : l1_6.length ≤ c1_6) (hr1_7 : Kd.C k131 w A1_7 l1_7.length l1_7) (hc1_7 : l1_7.length ≤ c1_7) (h : laws_eqSystem.f k a0_0 a0_1 a0_2 a0_3 a0_4 l0_5 l0_6 l0_7 a1_0 a1_1 a1_2 a1_3 a1_4 l1_5 l1_6 l1_7 = some r) :
    Calls Try.prog 20 #[.agg #[.int .i64 a0_0, .int .i64 a0_1, .int .i64 a0_2, .int .i64 a0_3, .string a0_4, .slice A0_5 l0_5.length c0_5, .slice A0_6 l0_6.length c0_6, .slice A0_7 l0_7.length c0_7], .agg #[.int .i64 a1_0, .int .i64 a1_1, .int .i64 a1_2, .int .i64 a1_3, .string a1_4, .slice A1_5 l1_5.length c1_5, .slice A1_6 l1_6.length c1_6, .slice A1_7 l1_7.length c1_7]] w fun e w' => e = .returned (.bool r) ∧ Below w.heap.size w w' := by
  unfold laws_eqSystem.f at h
  obtain ⟨t0, E0, h⟩ := Option.bind_eq_some_iff.1 h
  obtain ⟨t1, E1, h⟩ := Option.bind_eq_some_iff.1 h
  obtain ⟨t2, E2, h⟩ := Option.bind_eq_some_iff.1 h
  obtain ⟨t3, E3, h⟩ := Option.bind_eq_some_iff.1 h
  by_cases hq : t0 = true ∧ t1 = true ∧ t2 = true ∧ t3 = true
  case neg => rw [if_neg hq] at h; cases h
  rw [if_pos hq] at h
  obtain rfl := Option.some.inj h
  obtain ⟨rfl, rfl, rfl, rfl⟩ := hq
  clear h
  have F0 := Aside0.mk E0
  clear E0
  have F1 := Aside0.mk E1
  clear E1
  have F2 := Aside0.mk E2
  clear E2
  have F3 := Aside0.mk E3
  clear E3
  have HR0_5 := Aside0.mk hr0_5
  have HC0_5 := Aside0.mk hc0_5
  clear hr0_5 hc0_5
  have HR0_6 := Aside0.mk hr0_6
  have HC0_6 := Aside0.mk hc0_6
  clear hr0_6 hc0_6
  have HR0_7 := Aside0.mk hr0_7
  have HC0_7 := Aside0.mk hc0_7
  clear hr0_7 hc0_7
  have HR1_5 := Aside0.mk hr1_5
  have HC1_5 := Aside0.mk hc1_5
  clear hr1_5 hc1_5
  have HR1_6 := Aside0.mk hr1_6
  have HC1_6 := Aside0.mk hc1_6
  clear hr1_6 hc1_6
  have HR1_7 := Aside0.mk hr1_7
  have HC1_7 := Aside0.mk hc1_7
  clear hr1_7 hc1_7
  have hu_Geo := Try.underlying45
  have hu_Memory := Try.underlying48
  have hu_System := Try.underlying52
  have BA := Aside0.mk (blk_alloc (blk_new w (.cells #[.int .i64 a0_0, .int .i64 a0_1, .int .i64 a0_2, .int .i64 a0_3, .string a0_4, .slice A0_5 l0_5.length c0_5, .slice A0_6 l0_6.length c0_6, .slice A0_7 l0_7.length c0_7] 52)) (.cells #[.int .i64 a1_0, .int .i64 a1_1, .int .i64 a1_2, .int .i64 a1_3, .string a1_4, .slice A1_5 l1_5.length c1_5, .slice A1_6 l1_6.length c1_6, .slice A1_7 l1_7.length c1_7] 52))
  have BB := Aside0.mk (blk_new (w.alloc (.cells #[.int .i64 a0_0, .int .i64 a0_1, .int .i64 a0_2, .int .i64 a0_3, .string a0_4, .slice A0_5 l0_5.length c0_5, .slice A0_6 l0_6.length c0_6, .slice A0_7 l0_7.length c0_7] 52)) (.cells #[.int .i64 a1_0, .int .i64 a1_1, .int .i64 a1_2, .int .i64 a1_3, .string a1_4, .slice A1_5 l1_5.length c1_5, .slice A1_6 l1_6.length c1_6, .slice A1_7 l1_7.length c1_7] 52))
  have HB := Aside0.mk (below_alloc (below_alloc (Below.refl w.heap.size w) (.cells #[.int .i64 a0_0, .int .i64 a0_1, .int .i64 a0_2, .int .i64 a0_3, .string a0_4, .slice A0_5 l0_5.length c0_5, .slice A0_6 l0_6.length c0_6, .slice A0_7 l0_7.length c0_7] 52)) (.cells #[.int .i64 a1_0, .int .i64 a1_1, .int .i64 a1_2, .int .i64 a1_3, .string a1_4, .slice A1_5 l1_5.length c1_5, .slice A1_6 l1_6.length c1_6, .slice A1_7 l1_7.length c1_7] 52))
  have hg2 : (w.alloc (.cells #[.int .i64 a0_0, .int .i64 a0_1, .int .i64 a0_2, .int .i64 a0_3, .string a0_4, .slice A0_5 l0_5.length c0_5, .slice A0_6 l0_6.length c0_6, .slice A0_7 l0_7.length c0_7] 52)).heap.size = w.heap.size + 1 := by simp
  rw [hg2] at BB
  clear hg2
  go_enter Try.func20, Try.ntmps20
  go_wp2_with fail
  refine (laws_eqGeo.calls a0_0 a0_1 a0_2 a0_3 a1_0 a1_1 a1_2 a1_3 true _ F0.out).mono ?_
  rintro e v0 ⟨rfl, hb0⟩
  have hb : Below _ _ v0 := (by first | exact hb0 | exact hb0.below)
  have BA' := Aside0.mk (blk_below BA.out hb)
  have BB' := Aside0.mk (blk_below BB.out hb)
  have HB' := Aside0.mk (below_step HB.out hb)
  clear hb hb0 BA BB HB
  have BA := BA'
  have BB := BB'
  have HB := HB'
  clear BA' BB' HB'
  have x0_4 : v0.cell? ⟨w.heap.size, 4, none⟩ = some (.string a0_4) := blk_cell BA.out 4
  have x0_5 : v0.cell? ⟨w.heap.size, 5, none⟩ = some (.slice A0_5 l0_5.length c0_5) := blk_cell BA.out 5
  have x1_4 : v0.cell? ⟨w.heap.size + 1, 4, none⟩ = some (.string a1_4) := blk_cell BB.out 4
  have x1_5 : v0.cell? ⟨w.heap.size + 1, 5, none⟩ = some (.slice A1_5 l1_5.length c1_5) := blk_cell BB.out 5
  go_wp2_with fail
  refine (laws_eqMemory.calls k a0_4 _ _ l0_5 a1_4 _ _ l1_5 true _ (Kd.C_below HR0_5.out HB.out) HC0_5.out (Kd.C_below HR1_5.out HB.out) HC1_5.out F1.out).mono ?_
  rintro e v1 ⟨rfl, hb0⟩
  have hb : Below _ _ v1 := (by first | exact hb0 | exact hb0.below)
  have BA' := Aside0.mk (blk_below BA.out hb)
  have BB' := Aside0.mk (blk_below BB.out hb)
  have HB' := Aside0.mk (below_step HB.out hb)
  clear hb hb0 BA BB HB x0_4 x0_5 x1_4 x1_5
  have BA := BA'
  have BB := BB'
  have HB := HB'
  clear BA' BB' HB'
  have x0_6 : v1.cell? ⟨w.heap.size, 6, none⟩ = some (.slice A0_6 l0_6.length c0_6) := blk_cell BA.out 6
  have x1_6 : v1.cell? ⟨w.heap.size + 1, 6, none⟩ = some (.slice A1_6 l1_6.length c1_6) := blk_cell BB.out 6
  go_wp2_with fail
  refine (laws_eqJobS.calls k _ _ l0_6 _ _ l1_6 true _ (Kd.C_below HR0_6.out HB.out) HC0_6.out (Kd.C_below HR1_6.out HB.out) HC1_6.out F2.out).mono ?_
  rintro e v2 ⟨rfl, hb0⟩
  have hb : Below _ _ v2 := (by first | exact hb0 | exact hb0.below)
  have BA' := Aside0.mk (blk_below BA.out hb)
  have BB' := Aside0.mk (blk_below BB.out hb)
  have HB' := Aside0.mk (below_step HB.out hb)
  clear hb hb0 BA BB HB x0_6 x1_6
  have BA := BA'
  have BB := BB'
  have HB := HB'
  clear BA' BB' HB'
  have x0_7 : v2.cell? ⟨w.heap.size, 7, none⟩ = some (.slice A0_7 l0_7.length c0_7) := blk_cell BA.out 7
  have x1_7 : v2.cell? ⟨w.heap.size + 1, 7, none⟩ = some (.slice A1_7 l1_7.length c1_7) := blk_cell BB.out 7
  go_wp2_with fail
  refine (laws_eqSealingS.calls k _ _ l0_7 _ _ l1_7 true _ (Kd.C_below HR0_7.out HB.out) HC0_7.out (Kd.C_below HR1_7.out HB.out) HC1_7.out F3.out).mono ?_
  rintro e v3 ⟨rfl, hb0⟩
  have hb : Below _ _ v3 := (by first | exact hb0 | exact hb0.below)
  have BA' := Aside0.mk (blk_below BA.out hb)
  have BB' := Aside0.mk (blk_below BB.out hb)
  have HB' := Aside0.mk (below_step HB.out hb)
  clear hb hb0 BA BB HB x0_7 x1_7
  have BA := BA'
  have BB := BB'
  have HB := HB'
  clear BA' BB' HB'
  go_wp2
  go_ret
  exact ⟨rfl, HB.out⟩


end Go.Proofs.Ytggfonljcbmjmaa.PFnExactIdleIn
