import Derived.Test.YtggfonljcbmjmaaPFnExactIdleInx5
import Derived.Test.YtggfonljcbmjmaaPFnExactIdleInx6
namespace Go.Proofs.Ytggfonljcbmjmaa.PFnExactIdleIn
open Go.RowKit Go.Proofs.YtggfonljcbmjmaaW.PrintWords Go.Proofs.YtggfonljcbmjmaaW.PrintLast Go.Proofs.YtggfonljcbmjmaaW.PrintMore
set_option linter.unusedVariables false
set_option linter.unusedSimpArgs false
set_option linter.unusedSectionVars false

/-! ### laws.eqAsk, of equal arguments -/
def laws_eqAsk.f (a0_0 : Int) (a0_1 : ByteArray) (a0_2 : ByteArray) (a0_3 : Int) (a0_4 : Int) (a0_5 : ByteArray) (a1_0 : Int) (a1_1 : ByteArray) (a1_2 : ByteArray) (a1_3 : Int) (a1_4 : Int) (a1_5 : ByteArray) : Option Bool := if a0_0 = a1_0 ∧ a0_1 = a1_1 ∧ a0_2 = a1_2 ∧ a0_3 = a1_3 ∧ a0_4 = a1_4 ∧ a0_5 = a1_5 then some true else none
set_option maxHeartbeats 4000000 in
set_option maxRecDepth 100000 in
theorem laws_eqAsk.calls (a0_0 : Int) (a0_1 : ByteArray) (a0_2 : ByteArray) (a0_3 : Int) (a0_4 : Int) (a0_5 : ByteArray) (a1_0 : Int) (a1_1 : ByteArray) (a1_2 : ByteArray) (a1_3 : Int) (a1_4 : Int) (a1_5 : ByteArray) (r : Bool) (w : World) (h : laws_eqAsk.f a0_0 a0_1 a0_2 a0_3 a0_4 a0_5 a1_0 a1_1 a1_2 a1_3 a1_4 a1_5 = some r) :
    Calls Try.prog 92 #[.agg #[.int .i64 a0_0, .string a0_1, .string a0_2, .int .i64 a0_3, .int .i64 a0_4, .string a0_5], .agg #[.int .i64 a1_0, .string a1_1, .string a1_2, .int .i64 a1_3, .int .i64 a1_4, .string a1_5]] w fun e w' => e = .returned (.bool r) ∧ Below w.heap.size w w' := by
  unfold laws_eqAsk.f at h
  by_cases hq : a0_0 = a1_0 ∧ a0_1 = a1_1 ∧ a0_2 = a1_2 ∧ a0_3 = a1_3 ∧ a0_4 = a1_4 ∧ a0_5 = a1_5
  case neg => rw [if_neg hq] at h; cases h
  rw [if_pos hq] at h
  obtain rfl := Option.some.inj h
  obtain ⟨rfl, rfl, rfl, rfl, rfl, rfl⟩ := hq
  clear h
  have hu_Ask := Try.underlying90
  have BA := Aside0.mk (blk_alloc (blk_new w (.cells #[.int .i64 a0_0, .string a0_1, .string a0_2, .int .i64 a0_3, .int .i64 a0_4, .string a0_5] 90)) (.cells #[.int .i64 a0_0, .string a0_1, .string a0_2, .int .i64 a0_3, .int .i64 a0_4, .string a0_5] 90))
  have BB := Aside0.mk (blk_new (w.alloc (.cells #[.int .i64 a0_0, .string a0_1, .string a0_2, .int .i64 a0_3, .int .i64 a0_4, .string a0_5] 90)) (.cells #[.int .i64 a0_0, .string a0_1, .string a0_2, .int .i64 a0_3, .int .i64 a0_4, .string a0_5] 90))
  have HB := Aside0.mk (below_alloc (below_alloc (Below.refl w.heap.size w) (.cells #[.int .i64 a0_0, .string a0_1, .string a0_2, .int .i64 a0_3, .int .i64 a0_4, .string a0_5] 90)) (.cells #[.int .i64 a0_0, .string a0_1, .string a0_2, .int .i64 a0_3, .int .i64 a0_4, .string a0_5] 90))
  have hg2 : (w.alloc (.cells #[.int .i64 a0_0, .string a0_1, .string a0_2, .int .i64 a0_3, .int .i64 a0_4, .string a0_5] 90)).heap.size = w.heap.size + 1 := by simp
  rw [hg2] at BB
  clear hg2
  go_enter Try.func92, Try.ntmps92
  go_wp2
  go_ret
  exact ⟨rfl, HB.out⟩


/-! ### laws.eqResult, of equal arguments -/
def laws_eqResult.f (k : Nat) (a0_0 : Int) (a0_1 : ByteArray) (a0_2 : Int) (a0_3 : Bool) (l0_4 : List (ByteArray)) (a1_0 : Int) (a1_1 : ByteArray) (a1_2 : Int) (a1_3 : Bool) (l1_4 : List (ByteArray)) : Option Bool := (laws_eqStringS.f k l0_4 l1_4).bind fun t0 => (if t0 = true ∧ a0_0 = a1_0 ∧ a0_1 = a1_1 ∧ a0_2 = a1_2 ∧ a0_3 = a1_3 then some true else none)
theorem laws_eqResult.mono : ∀ y0 y1 y2 y3 y4 y5 y6 y7 y8 y9 k, LeO (laws_eqResult.f k y0 y1 y2 y3 y4 y5 y6 y7 y8 y9) (laws_eqResult.f (k + 1) y0 y1 y2 y3 y4 y5 y6 y7 y8 y9) := by
  intro y0 y1 y2 y3 y4 y5 y6 y7 y8 y9 k
  unfold laws_eqResult.f
  repeat' first
  | (with_reducible exact laws_eqStringS.mono _ _ _ )
  | (with_reducible exact LeO.refl _)
  | (with_reducible refine LeO.bind ?_ (fun _ => ?_))
set_option maxHeartbeats 4000000 in
set_option maxRecDepth 100000 in
theorem laws_eqResult.calls (k : Nat) (a0_0 : Int) (a0_1 : ByteArray) (a0_2 : Int) (a0_3 : Bool) (A0_4 : Option Addr) (c0_4 : Nat) (l0_4 : List (ByteArray)) (a1_0 : Int) (a1_1 : ByteArray) (a1_2 : Int) (a1_3 : Bool) (A1_4 : Option Addr) (c1_4 : Nat) (l1_4 : List (ByteArray)) (r : Bool) (w : World) (hr0_4 : Kd.C Kd.string w A0_4 l0_4.length l0_4) (hc0_4 : l0_4.length ≤ c0_4) (hr1_4 : Kd.C Kd.string w A1_4 l1_4.length l1_4) (hc1_4 : l1_4.length ≤ c1_4) (h : laws_eqResult.f k a0_0 a0_1 a0_2 a0_3 l0_4 a1_0 a1_1 a1_2 a1_3 l1_4 = some r) :
    Calls Try.prog 33 #[.agg #[.int .i64 a0_0, .string a0_1, .int .i64 a0_2, .bool a0_3, .slice A0_4 l0_4.length c0_4], .agg #[.int .i64 a1_0, .string a1_1, .int .i64 a1_2, .bool a1_3, .slice A1_4 l1_4.length c1_4]] w fun e w' => e = .returned (.bool r) ∧ Below w.heap.size w w' := by
  unfold laws_eqResult.f at h
  obtain ⟨t0, E0, h⟩ := Option.bind_eq_some_iff.1 h
  by_cases hq : t0 = true ∧ a0_0 = a1_0 ∧ a0_1 = a1_1 ∧ a0_2 = a1_2 ∧ a0_3 = a1_3
  case neg => rw [if_neg hq] at h; cases h
  rw [if_pos hq] at h
  obtain rfl := Option.some.inj h
  obtain ⟨rfl, rfl, rfl, rfl, rfl⟩ := hq
  clear h
  have F0 := Aside0.mk E0
  clear E0
  have HR0_4 := Aside0.mk hr0_4
  have HC0_4 := Aside0.mk hc0_4
  clear hr0_4 hc0_4
  have HR1_4 := Aside0.mk hr1_4
  have HC1_4 := Aside0.mk hc1_4
  clear hr1_4 hc1_4
  have hu_Result := Try.underlying77
  have BA := Aside0.mk (blk_alloc (blk_new w (.cells #[.int .i64 a0_0, .string a0_1, .int .i64 a0_2, .bool a0_3, .slice A0_4 l0_4.length c0_4] 77)) (.cells #[.int .i64 a0_0, .string a0_1, .int .i64 a0_2, .bool a0_3, .slice A1_4 l1_4.length c1_4] 77))
  have BB := Aside0.mk (blk_new (w.alloc (.cells #[.int .i64 a0_0, .string a0_1, .int .i64 a0_2, .bool a0_3, .slice A0_4 l0_4.length c0_4] 77)) (.cells #[.int .i64 a0_0, .string a0_1, .int .i64 a0_2, .bool a0_3, .slice A1_4 l1_4.length c1_4] 77))
  have HB := Aside0.mk (below_alloc (below_alloc (Below.refl w.heap.size w) (.cells #[.int .i64 a0_0, .string a0_1, .int .i64 a0_2, .bool a0_3, .slice A0_4 l0_4.length c0_4] 77)) (.cells #[.int .i64 a0_0, .string a0_1, .int .i64 a0_2, .bool a0_3, .slice A1_4 l1_4.length c1_4] 77))
  have hg2 : (w.alloc (.cells #[.int .i64 a0_0, .string a0_1, .int .i64 a0_2, .bool a0_3, .slice A0_4 l0_4.length c0_4] 77)).heap.size = w.heap.size + 1 := by simp
  rw [hg2] at BB
  clear hg2
  go_enter Try.func33, Try.ntmps33
  go_wp2_with fail
  refine (laws_eqStringS.calls k _ _ l0_4 _ _ l1_4 true _ (Kd.C_below HR0_4.out HB.out) HC0_4.out (Kd.C_below HR1_4.out HB.out) HC1_4.out F0.out).mono ?_
  rintro e v0 ⟨rfl, hb0⟩
  have hb : Below _ _ v0 := (by first | exact hb0 | exact hb0.below)
  have BA' := Aside0.mk (blk_below BA.out hb)
  have BB' := Aside0.mk (blk_below BB.out hb)
  have HB' := Aside0.mk (below_step HB.out hb)
  clear hb hb0 BA BB HB
  have BA := BA'
  have BB := BB'
  have HB := HB'
  clear BA' BB' HB'
  have x0_0 : v0.cell? ⟨w.heap.size, 0, none⟩ = some (.int .i64 a0_0) := blk_cell BA.out 0
  have x1_0 : v0.cell? ⟨w.heap.size + 1, 0, none⟩ = some (.int .i64 a0_0) := blk_cell BB.out 0
  have x0_1 : v0.cell? ⟨w.heap.size, 1, none⟩ = some (.string a0_1) := blk_cell BA.out 1
  have x1_1 : v0.cell? ⟨w.heap.size + 1, 1, none⟩ = some (.string a0_1) := blk_cell BB.out 1
  have x0_2 : v0.cell? ⟨w.heap.size, 2, none⟩ = some (.int .i64 a0_2) := blk_cell BA.out 2
  have x1_2 : v0.cell? ⟨w.heap.size + 1, 2, none⟩ = some (.int .i64 a0_2) := blk_cell BB.out 2
  have x0_3 : v0.cell? ⟨w.heap.size, 3, none⟩ = some (.bool a0_3) := blk_cell BA.out 3
  have x1_3 : v0.cell? ⟨w.heap.size + 1, 3, none⟩ = some (.bool a0_3) := blk_cell BB.out 3
  go_wp2
  go_ret
  exact ⟨rfl, HB.out⟩


/-! ### laws.eqJob, of equal arguments -/
def laws_eqJob.f (k : Nat) (a0_0 : Int) (a0_1 : ByteArray) (a0_2 : ByteArray) (a0_3 : Int) (a0_4 : Int) (a0_5 : ByteArray) (a0_6 : Int) (a0_7 : ByteArray) (a0_8 : Int) (a0_9 : Bool) (l0_10 : List (ByteArray)) (l0_11 : List (S162)) (l0_12 : List (S131)) (a0_13 : Int) (a0_14 : Bool) (a0_15 : Bool) (a1_0 : Int) (a1_1 : ByteArray) (a1_2 : ByteArray) (a1_3 : Int) (a1_4 : Int) (a1_5 : ByteArray) (a1_6 : Int) (a1_7 : ByteArray) (a1_8 : Int) (a1_9 : Bool) (l1_10 : List (ByteArray)) (l1_11 : List (S162)) (l1_12 : List (S131)) (a1_13 : Int) (a1_14 : Bool) (a1_15 : Bool) : Option Bool := (laws_eqAsk.f a0_0 a0_1 a0_2 a0_3 a0_4 a0_5 a1_0 a1_1 a1_2 a1_3 a1_4 a1_5).bind fun t0 => ((laws_eqResult.f k a0_6 a0_7 a0_8 a0_9 l0_10 a1_6 a1_7 a1_8 a1_9 l1_10).bind fun t1 => ((laws_eqStepS.f k l0_11 l1_11).bind fun t2 => ((laws_eqSealingS.f k l0_12 l1_12).bind fun t3 => (if t0 = true ∧ t1 = true ∧ t2 = true ∧ t3 = true ∧ a0_13 = a1_13 ∧ a0_14 = a1_14 ∧ a0_15 = a1_15 then some true else none))))
theorem laws_eqJob.mono : ∀ y0 y1 y2 y3 y4 y5 y6 y7 y8 y9 y10 y11 y12 y13 y14 y15 y16 y17 y18 y19 y20 y21 y22 y23 y24 y25 y26 y27 y28 y29 y30 y31 k, LeO (laws_eqJob.f k y0 y1 y2 y3 y4 y5 y6 y7 y8 y9 y10 y11 y12 y13 y14 y15 y16 y17 y18 y19 y20 y21 y22 y23 y24 y25 y26 y27 y28 y29 y30 y31) (laws_eqJob.f (k + 1) y0 y1 y2 y3 y4 y5 y6 y7 y8 y9 y10 y11 y12 y13 y14 y15 y16 y17 y18 y19 y20 y21 y22 y23 y24 y25 y26 y27 y28 y29 y30 y31) := by
  intro y0 y1 y2 y3 y4 y5 y6 y7 y8 y9 y10 y11 y12 y13 y14 y15 y16 y17 y18 y19 y20 y21 y22 y23 y24 y25 y26 y27 y28 y29 y30 y31 k
  unfold laws_eqJob.f
  repeat' first
  | (with_reducible exact laws_eqResult.mono _ _ _ _ _ _ _ _ _ _ _ )
  | (with_reducible exact laws_eqStepS.mono _ _ _ )
  | (with_reducible exact laws_eqSealingS.mono _ _ _ )
  | (with_reducible exact LeO.refl _)
  | (with_reducible refine LeO.bind ?_ (fun _ => ?_))
set_option maxHeartbeats 4000000 in
set_option maxRecDepth 100000 in
theorem laws_eqJob.calls (k : Nat) (a0_0 : Int) (a0_1 : ByteArray) (a0_2 : ByteArray) (a0_3 : Int) (a0_4 : Int) (a0_5 : ByteArray) (a0_6 : Int) (a0_7 : ByteArray) (a0_8 : Int) (a0_9 : Bool) (A0_10 : Option Addr) (c0_10 : Nat) (l0_10 : List (ByteArray)) (A0_11 : Option Addr) (c0_11 : Nat) (l0_11 : List (S162)) (A0_12 : Option Addr) (c0_12 : Nat) (l0_12 : List (S131)) (a0_13 : Int) (a0_14 : Bool) (a0_15 : Bool) (a1_0 : Int) (a1_1 : ByteArray) (a1_2 : ByteArray) (a1_3 : Int) (a1_4 : Int) (a1_5 : ByteArray) (a1_6 : Int) (a1_7 : ByteArray) (a1_8 : Int) (a1_9 : Bool) (A1_10 : Option Addr) (c1_10 : Nat) (l1_10 : List (ByteArray)) (A1_11 : Option Addr) (c1_11 : Nat) (l1_11 : List (S162)) (A1_12 : Option Addr) (c1_12 : Nat) (l1_12 : List (S131)) (a1_13 : Int) (a1_14 : Bool) (a1_15 : Bool) (r : Bool) (w : World) (hr0_10 : Kd.C Kd.string w A0_10 l0_10.length l0_10) (hc0_10 : l0_10.length ≤ c0_10) (hr0_11 : Kd.C k162 w A0_11 l0_11.length l0_11) (hc0_11 : l0_11.length ≤ c0_11) (hr0_12 : Kd.C k131 w A0_12 l0_12.length l0_12) (hc0_12 : l0_12.length ≤ c0_12) (hr1_10 : Kd.C Kd.string w A1_10 l1_10.length l1_10) (hc1_10 : l1_10.length ≤ c1_10) (hr1_11 : Kd.C k162 w A1_11 l1_11.length l1_11) (hc1_11 : l1_11.length ≤ c1_11) (hr1_12 : Kd.C k131 w A1_12 l1_12.length l1_12) (hc1_12 : l1_12.length ≤ c1_12) (h : laws_eqJob.f k a0_0 a0_1 a0_2 a0_3 a0_4 a0_5 a0_6 a0_7 a0_8 a0_9 l0_10 l0_11 l0_12 a0_13 a0_14 a0_15 a1_0 a1_1 a1_2 a1_3 a1_4 a1_5 a1_6 a1_7 a1_8 a1_9 l1_10 l1_11 l1_12 a1_13 a1_14 a1_15 = some r) :
    Calls Try.prog 71 #[.agg #[.int .i64 a0_0, .string a0_1, .string a0_2, .int .i64 a0_3, .int .i64 a0_4, .string a0_5, .int .i64 a0_6, .string a0_7, .int .i64 a0_8, .bool a0_9, .slice A0_10 l0_10.length c0_10, .slice A0_11 l0_11.length c0_11, .slice A0_12 l0_12.length c0_12, .int .i64 a0_13, .bool a0_14, .bool a0_15], .agg #[.int .i64 a1_0, .string a1_1, .string a1_2, .int .i64 a1_3, .int .i64 a1_4, .string a1_5, .int .i64 a1_6, .string a1_7, .int .i64 a1_8, .bool a1_9, .slice A1_10 l1_10.length c1_10, .slice A1_11 l1_11.length c1_11, .slice A1_12 l1_12.length c1_12, .int .i64 a1_13, .bool a1_14, .bool a1_15]] w fun e w' => e = .returned (.bool r) ∧ Below w.heap.size w w' := by
  unfold laws_eqJob.f at h
  obtain ⟨t0, E0, h⟩ := Option.bind_eq_some_iff.1 h
  obtain ⟨t1, E1, h⟩ := Option.bind_eq_some_iff.1 h
  obtain ⟨t2, E2, h⟩ := Option.bind_eq_some_iff.1 h
  obtain ⟨t3, E3, h⟩ := Option.bind_eq_some_iff.1 h
  by_cases hq : t0 = true ∧ t1 = true ∧ t2 = true ∧ t3 = true ∧ a0_13 = a1_13 ∧ a0_14 = a1_14 ∧ a0_15 = a1_15
  case neg => rw [if_neg hq] at h; cases h
  rw [if_pos hq] at h
  obtain rfl := Option.some.inj h
  obtain ⟨rfl, rfl, rfl, rfl, rfl, rfl, rfl⟩ := hq
  clear h
  have F0 := Aside0.mk E0
  clear E0
  have F1 := Aside0.mk E1
  clear E1
  have F2 := Aside0.mk E2
  clear E2
  have F3 := Aside0.mk E3
  clear E3
  have HR0_10 := Aside0.mk hr0_10
  have HC0_10 := Aside0.mk hc0_10
  clear hr0_10 hc0_10
  have HR0_11 := Aside0.mk hr0_11
  have HC0_11 := Aside0.mk hc0_11
  clear hr0_11 hc0_11
  have HR0_12 := Aside0.mk hr0_12
  have HC0_12 := Aside0.mk hc0_12
  clear hr0_12 hc0_12
  have HR1_10 := Aside0.mk hr1_10
  have HC1_10 := Aside0.mk hc1_10
  clear hr1_10 hc1_10
  have HR1_11 := Aside0.mk hr1_11
  have HC1_11 := Aside0.mk hc1_11
  clear hr1_11 hc1_11
  have HR1_12 := Aside0.mk hr1_12
  have HC1_12 := Aside0.mk hc1_12
  clear hr1_12 hc1_12
  have hu_Ask := Try.underlying90
  have hu_Job := Try.underlying93
  have hu_Result := Try.underlying77
  have BA := Aside0.mk (blk_alloc (blk_new w (.cells #[.int .i64 a0_0, .string a0_1, .string a0_2, .int .i64 a0_3, .int .i64 a0_4, .string a0_5, .int .i64 a0_6, .string a0_7, .int .i64 a0_8, .bool a0_9, .slice A0_10 l0_10.length c0_10, .slice A0_11 l0_11.length c0_11, .slice A0_12 l0_12.length c0_12, .int .i64 a0_13, .bool a0_14, .bool a0_15] 93)) (.cells #[.int .i64 a1_0, .string a1_1, .string a1_2, .int .i64 a1_3, .int .i64 a1_4, .string a1_5, .int .i64 a1_6, .string a1_7, .int .i64 a1_8, .bool a1_9, .slice A1_10 l1_10.length c1_10, .slice A1_11 l1_11.length c1_11, .slice A1_12 l1_12.length c1_12, .int .i64 a0_13, .bool a0_14, .bool a0_15] 93))
  have BB := Aside0.mk (blk_new (w.alloc (.cells #[.int .i64 a0_0, .string a0_1, .string a0_2, .int .i64 a0_3, .int .i64 a0_4, .string a0_5, .int .i64 a0_6, .string a0_7, .int .i64 a0_8, .bool a0_9, .slice A0_10 l0_10.length c0_10, .slice A0_11 l0_11.length c0_11, .slice A0_12 l0_12.length c0_12, .int .i64 a0_13, .bool a0_14, .bool a0_15] 93)) (.cells #[.int .i64 a1_0, .string a1_1, .string a1_2, .int .i64 a1_3, .int .i64 a1_4, .string a1_5, .int .i64 a1_6, .string a1_7, .int .i64 a1_8, .bool a1_9, .slice A1_10 l1_10.length c1_10, .slice A1_11 l1_11.length c1_11, .slice A1_12 l1_12.length c1_12, .int .i64 a0_13, .bool a0_14, .bool a0_15] 93))
  have HB := Aside0.mk (below_alloc (below_alloc (Below.refl w.heap.size w) (.cells #[.int .i64 a0_0, .string a0_1, .string a0_2, .int .i64 a0_3, .int .i64 a0_4, .string a0_5, .int .i64 a0_6, .string a0_7, .int .i64 a0_8, .bool a0_9, .slice A0_10 l0_10.length c0_10, .slice A0_11 l0_11.length c0_11, .slice A0_12 l0_12.length c0_12, .int .i64 a0_13, .bool a0_14, .bool a0_15] 93)) (.cells #[.int .i64 a1_0, .string a1_1, .string a1_2, .int .i64 a1_3, .int .i64 a1_4, .string a1_5, .int .i64 a1_6, .string a1_7, .int .i64 a1_8, .bool a1_9, .slice A1_10 l1_10.length c1_10, .slice A1_11 l1_11.length c1_11, .slice A1_12 l1_12.length c1_12, .int .i64 a0_13, .bool a0_14, .bool a0_15] 93))
  have hg2 : (w.alloc (.cells #[.int .i64 a0_0, .string a0_1, .string a0_2, .int .i64 a0_3, .int .i64 a0_4, .string a0_5, .int .i64 a0_6, .string a0_7, .int .i64 a0_8, .bool a0_9, .slice A0_10 l0_10.length c0_10, .slice A0_11 l0_11.length c0_11, .slice A0_12 l0_12.length c0_12, .int .i64 a0_13, .bool a0_14, .bool a0_15] 93)).heap.size = w.heap.size + 1 := by simp
  rw [hg2] at BB
  clear hg2
  go_enter Try.func71, Try.ntmps71
  go_wp2_with fail
  refine (laws_eqAsk.calls a0_0 a0_1 a0_2 a0_3 a0_4 a0_5 a1_0 a1_1 a1_2 a1_3 a1_4 a1_5 true _ F0.out).mono ?_
  rintro e v0 ⟨rfl, hb0⟩
  have hb : Below _ _ v0 := (by first | exact hb0 | exact hb0.below)
  have BA' := Aside0.mk (blk_below BA.out hb)
  have BB' := Aside0.mk (blk_below BB.out hb)
  have HB' := Aside0.mk (below_step HB.out hb)
  clear hb hb0 BA BB HB
  have BA := BA'
  have BB := BB'
  have HB := HB'
  clear BA' BB' HB'
  have x0_6 : v0.cell? ⟨w.heap.size, 6, none⟩ = some (.int .i64 a0_6) := blk_cell BA.out 6
  have x0_7 : v0.cell? ⟨w.heap.size, 7, none⟩ = some (.string a0_7) := blk_cell BA.out 7
  have x0_8 : v0.cell? ⟨w.heap.size, 8, none⟩ = some (.int .i64 a0_8) := blk_cell BA.out 8
  have x0_9 : v0.cell? ⟨w.heap.size, 9, none⟩ = some (.bool a0_9) := blk_cell BA.out 9
  have x0_10 : v0.cell? ⟨w.heap.size, 10, none⟩ = some (.slice A0_10 l0_10.length c0_10) := blk_cell BA.out 10
  have x1_6 : v0.cell? ⟨w.heap.size + 1, 6, none⟩ = some (.int .i64 a1_6) := blk_cell BB.out 6
  have x1_7 : v0.cell? ⟨w.heap.size + 1, 7, none⟩ = some (.string a1_7) := blk_cell BB.out 7
  have x1_8 : v0.cell? ⟨w.heap.size + 1, 8, none⟩ = some (.int .i64 a1_8) := blk_cell BB.out 8
  have x1_9 : v0.cell? ⟨w.heap.size + 1, 9, none⟩ = some (.bool a1_9) := blk_cell BB.out 9
  have x1_10 : v0.cell? ⟨w.heap.size + 1, 10, none⟩ = some (.slice A1_10 l1_10.length c1_10) := blk_cell BB.out 10
  go_wp2_with fail
  refine (laws_eqResult.calls k a0_6 a0_7 a0_8 a0_9 _ _ l0_10 a1_6 a1_7 a1_8 a1_9 _ _ l1_10 true _ (Kd.C_below HR0_10.out HB.out) HC0_10.out (Kd.C_below HR1_10.out HB.out) HC1_10.out F1.out).mono ?_
  rintro e v1 ⟨rfl, hb0⟩
  have hb : Below _ _ v1 := (by first | exact hb0 | exact hb0.below)
  have BA' := Aside0.mk (blk_below BA.out hb)
  have BB' := Aside0.mk (blk_below BB.out hb)
  have HB' := Aside0.mk (below_step HB.out hb)
  clear hb hb0 BA BB HB x0_6 x0_7 x0_8 x0_9 x0_10 x1_6 x1_7 x1_8 x1_9 x1_10
  have BA := BA'
  have BB := BB'
  have HB := HB'
  clear BA' BB' HB'
  have x0_11 : v1.cell? ⟨w.heap.size, 11, none⟩ = some (.slice A0_11 l0_11.length c0_11) := blk_cell BA.out 11
  have x1_11 : v1.cell? ⟨w.heap.size + 1, 11, none⟩ = some (.slice A1_11 l1_11.length c1_11) := blk_cell BB.out 11
  go_wp2_with fail
  refine (laws_eqStepS.calls k _ _ l0_11 _ _ l1_11 true _ (Kd.C_below HR0_11.out HB.out) HC0_11.out (Kd.C_below HR1_11.out HB.out) HC1_11.out F2.out).mono ?_
  rintro e v2 ⟨rfl, hb0⟩
  have hb : Below _ _ v2 := (by first | exact hb0 | exact hb0.below)
  have BA' := Aside0.mk (blk_below BA.out hb)
  have BB' := Aside0.mk (blk_below BB.out hb)
  have HB' := Aside0.mk (below_step HB.out hb)
  clear hb hb0 BA BB HB x0_11 x1_11
  have BA := BA'
  have BB := BB'
  have HB := HB'
  clear BA' BB' HB'
  have x0_12 : v2.cell? ⟨w.heap.size, 12, none⟩ = some (.slice A0_12 l0_12.length c0_12) := blk_cell BA.out 12
  have x1_12 : v2.cell? ⟨w.heap.size + 1, 12, none⟩ = some (.slice A1_12 l1_12.length c1_12) := blk_cell BB.out 12
  go_wp2_with fail
  refine (laws_eqSealingS.calls k _ _ l0_12 _ _ l1_12 true _ (Kd.C_below HR0_12.out HB.out) HC0_12.out (Kd.C_below HR1_12.out HB.out) HC1_12.out F3.out).mono ?_
  rintro e v3 ⟨rfl, hb0⟩
  have hb : Below _ _ v3 := (by first | exact hb0 | exact hb0.below)
  have BA' := Aside0.mk (blk_below BA.out hb)
  have BB' := Aside0.mk (blk_below BB.out hb)
  have HB' := Aside0.mk (below_step HB.out hb)
  clear hb hb0 BA BB HB x0_12 x1_12
  have BA := BA'
  have BB := BB'
  have HB := HB'
  clear BA' BB' HB'
  have x0_13 : v3.cell? ⟨w.heap.size, 13, none⟩ = some (.int .i64 a0_13) := blk_cell BA.out 13
  have x1_13 : v3.cell? ⟨w.heap.size + 1, 13, none⟩ = some (.int .i64 a0_13) := blk_cell BB.out 13
  have x0_14 : v3.cell? ⟨w.heap.size, 14, none⟩ = some (.bool a0_14) := blk_cell BA.out 14
  have x1_14 : v3.cell? ⟨w.heap.size + 1, 14, none⟩ = some (.bool a0_14) := blk_cell BB.out 14
  have x0_15 : v3.cell? ⟨w.heap.size, 15, none⟩ = some (.bool a0_15) := blk_cell BA.out 15
  have x1_15 : v3.cell? ⟨w.heap.size + 1, 15, none⟩ = some (.bool a0_15) := blk_cell BB.out 15
  go_wp2
  go_ret
  exact ⟨rfl, HB.out⟩


end Go.Proofs.Ytggfonljcbmjmaa.PFnExactIdleIn
