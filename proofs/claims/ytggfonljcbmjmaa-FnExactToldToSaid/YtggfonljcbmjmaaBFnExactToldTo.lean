import Derived.Test.YtggfonljcbmjmaaB3FnExactToldTo
import Derived.Test.YtggfonljcbmjmaaPFnExactToldTox1
import Derived.Test.YtggfonljcbmjmaaPFnExactToldTox2
import Derived.Test.YtggfonljcbmjmaaPFnExactToldTox3
import Derived.Test.YtggfonljcbmjmaaPFnExactToldTox4
import Derived.Test.YtggfonljcbmjmaaPFnExactToldTox5
import Derived.Test.YtggfonljcbmjmaaPFnExactToldTox7
namespace Go.Proofs.Ytggfonljcbmjmaa.PFnExactToldTo
open Go.RowKit Go.Proofs.YtggfonljcbmjmaaW.PrintWords Go.Proofs.YtggfonljcbmjmaaW.PrintLast Go.Proofs.YtggfonljcbmjmaaW.PrintMore
set_option linter.unusedVariables false
set_option linter.unusedSimpArgs false
set_option linter.unusedSectionVars false

theorem held_ResultS (k : Nat) {A : Option Addr} {n c : Nat} {l : List (S77)} {a r : Int} {w : World} (hr : n = l.length ∧ n ≤ c ∧ Kd.C k77 w A l.length l) (h : laws_heldResultS.f k l a = some r) :
    Calls Try.prog 14 #[.slice A n c, .int .i64 a] w fun e w' => e = .returned (.int .i64 r) ∧ Below w.heap.size w w' := by
  obtain ⟨rfl, h1, h2⟩ := hr
  exact (laws_heldResultS.calls k A c l a r w h2 h1 h).mono (fun e w' ⟨a1, a2⟩ => ⟨a1, by first | exact a2 | exact a2.below⟩)
/-! ### the law FnExactToldTo -/
def laws_FnExactToldTo.f (k : Nat) (l0 : List (S76)) (a1 : Int) : Option Bool := (laws_szToldS.f k l0 1048576).bind fun n0 => if n0 < 0 then some true else (laws_toToldS.f k l0).bind fun t0 => (spec_ToldTo.f k t0 a1).bind fun wr => (impl_ToldTo.f k t0 a1).bind fun gr => (laws_eqResultS.f k gr wr).bind fun e0 => (laws_eqToldS.f k t0 t0).bind fun e1 => (laws_markToldS.f k t0 1).bind fun m0 => (laws_markResultS.f k gr 1).bind fun mg => (laws_heldResultS.f k mg.2 1).bind fun hd => if e0 = true ∧ e1 = true ∧ 0 ≤ m0.1 ∧ 0 ≤ hd ∧ hd = mg.1 then some true else none
theorem laws_FnExactToldTo.mono : ∀ l0 a1 k, LeO (laws_FnExactToldTo.f k l0 a1) (laws_FnExactToldTo.f (k + 1) l0 a1) := by
  intro l0 a1 k
  unfold laws_FnExactToldTo.f
  repeat' first
    | (with_reducible exact laws_szToldS.mono _ _ _ )
    | (with_reducible exact laws_toToldS.mono _ _ )
    | (with_reducible exact spec_ToldTo.mono _ _ _ )
    | (with_reducible exact impl_ToldTo.mono _ _ _ )
    | (with_reducible exact laws_eqResultS.mono _ _ _ )
    | (with_reducible exact laws_eqToldS.mono _ _ _ )
    | (with_reducible exact laws_markToldS.mono _ _ _ )
    | (with_reducible exact laws_markResultS.mono _ _ _ )
    | (with_reducible exact laws_heldResultS.mono _ _ _ )
    | (with_reducible exact LeO.refl _)
    | (with_reducible refine LeO.ite ?_ ?_)
    | (with_reducible refine LeO.bind ?_ (fun _ => ?_))
set_option maxHeartbeats 16000000 in
set_option maxRecDepth 100000 in
theorem laws_FnExactToldTo.calls (k : Nat) (A0 : Option Addr) (c0 : Nat) (l0 : List (S76)) (a1 : Int) (r : Bool) (w : World) (hr0 : Kd.C k76 w A0 l0.length l0) (hc0 : l0.length ≤ c0) (h : laws_FnExactToldTo.f k l0 a1 = some r) :
    Calls Try.prog 3 #[.slice A0 l0.length c0, .int .i64 a1] w fun e w' => e = .returned (.bool r) ∧ Below w.heap.size w w' := by
  have HR0 := Aside0.mk hr0
  have HC0 := Aside0.mk hc0
  clear hr0 hc0
  have HB := Aside0.mk (Below.refl w.heap.size w)
  unfold laws_FnExactToldTo.f at h
  obtain ⟨n0, E0, h⟩ := Option.bind_eq_some_iff.1 h
  have FS0 := Aside0.mk E0
  clear E0
  by_cases hn : n0 < 0
  · rw [if_pos hn] at h
    have hnb : decide (n0 < 0) = true := decide_eq_true hn
    clear hn
    obtain rfl := Option.some.inj h
    clear h
    go_enter Try.func3, Try.ntmps3
    go_wp2_with (first
      | ((with_reducible refine gate_callee (f := 6) rfl ?_); (try (refine gate_guard (by rfl) ?_; dsimp only)); refine goesL_ (some 15) rfl rfl Try.func6 (by kernel_rfl) rfl #[.slice A0 l0.length c0, .int .i64 1048576] rfl (by (try simp only [List.map_toArray, List.map_cons, List.map_nil]); first | done | rfl) ?_; (with_reducible refine (laws_szToldS.calls k _ _ l0 1048576 n0 _ (Kd.C_below HR0.out HB.out) HC0.out FS0.out).mono ?_); rintro e z1 ⟨rfl, hb0⟩; refine ⟨_, rfl, ?_⟩; have hb : Below _ _ z1 := (by first | exact hb0 | exact hb0.below); have Z0 := Aside0.mk (Below.size hb); have n0_ := Aside0.mk (below_step HB.out hb); clear HB; have HB := n0_; clear n0_; clear hb hb0))
    go_ret
    exact ⟨rfl, HB.out⟩
  · rw [if_neg hn] at h
    have hnb : decide (n0 < 0) = false := decide_eq_false hn
    clear hn
    obtain ⟨yx0_0, E, h⟩ := Option.bind_eq_some_iff.1 h
    have FT0 := Aside0.mk E
    clear E
    obtain ⟨wr, E, h⟩ := Option.bind_eq_some_iff.1 h
    have FW := Aside0.mk E
    clear E
    obtain ⟨gr, E, h⟩ := Option.bind_eq_some_iff.1 h
    have FG := Aside0.mk E
    clear E
    obtain ⟨e0, E, h⟩ := Option.bind_eq_some_iff.1 h
    have FE0 := Aside0.mk E
    clear E
    obtain ⟨e1, E, h⟩ := Option.bind_eq_some_iff.1 h
    have FE1 := Aside0.mk E
    clear E
    obtain ⟨⟨m0, q0_0⟩, E, h⟩ := Option.bind_eq_some_iff.1 h
    have FM0 := Aside0.mk E
    clear E
    obtain ⟨⟨mg, g2⟩, E, h⟩ := Option.bind_eq_some_iff.1 h
    have FMG := Aside0.mk E
    clear E
    obtain ⟨hd, E, h⟩ := Option.bind_eq_some_iff.1 h
    have FH := Aside0.mk E
    clear E
    by_cases hq : e0 = true ∧ e1 = true ∧ 0 ≤ m0 ∧ 0 ≤ hd ∧ hd = mg
    case neg => rw [if_neg hq] at h; cases h
    rw [if_pos hq] at h
    obtain rfl := Option.some.inj h
    clear h
    obtain ⟨rfl, rfl, hm0, hd0, rfl⟩ := hq
    have hmb : decide (m0 < 0) = false := decide_eq_false (by omega)
    have hdb : decide (hd < 0) = false := decide_eq_false (by omega)
    clear hm0 hd0
    go_enter Try.func3, Try.ntmps3
    go_wp2_with (first
      | ((with_reducible refine gate_callee (f := 6) rfl ?_); (try (refine gate_guard (by rfl) ?_; dsimp only)); refine goesL_ (some 15) rfl rfl Try.func6 (by kernel_rfl) rfl #[.slice A0 l0.length c0, .int .i64 1048576] rfl (by (try simp only [List.map_toArray, List.map_cons, List.map_nil]); first | done | rfl) ?_; (with_reducible refine (laws_szToldS.calls k _ _ l0 1048576 n0 _ (Kd.C_below HR0.out HB.out) HC0.out FS0.out).mono ?_); rintro e z51 ⟨rfl, hb0⟩; refine ⟨_, rfl, ?_⟩; have hb : Below _ _ z51 := (by first | exact hb0 | exact hb0.below); have Z0 := Aside0.mk (Below.size hb); have n0_ := Aside0.mk (below_step HB.out hb); clear HB; have HB := n0_; clear n0_; clear hb hb0)
      | ((with_reducible refine gate_callee (f := 8) rfl ?_); (try (refine gate_guard (by rfl) ?_; dsimp only)); refine goesL_ (some 19) rfl rfl Try.func8 (by kernel_rfl) rfl #[.slice A0 l0.length c0] rfl (by (try simp only [List.map_toArray, List.map_cons, List.map_nil]); first | done | rfl) ?_; (with_reducible refine (laws_toToldS.calls k _ _ l0 yx0_0 _ (Kd.C_below HR0.out HB.out) HC0.out FT0.out).mono ?_); rintro e z52 ⟨v0, rfl, h0, hb⟩; refine ⟨_, rfl, ?_⟩; obtain ⟨Au0_0, cu0_0, eo_⟩ := Kd.S_slice h0; subst eo_; have Hu0_0 := Aside0.mk (show Kd.S k79 79 z52 w.heap.size (fun k_ => z51.heap.size ≤ k_ ∧ k_ < z52.heap.size) (.slice Au0_0 yx0_0.length cu0_0) yx0_0 from Kd.S_lower (Kd.S_mono (Kd.S_bound (h0)) (fun k_ hk => ⟨hk.2.1, hk.2.2.1⟩)) (Below.size HB.out)); have Iu0_0 := Aside0.mk (show ∀ k_, ((fun k_ => z51.heap.size ≤ k_ ∧ k_ < z52.heap.size) k_) → z51.heap.size ≤ k_ ∧ k_ < z52.heap.size from fun k_ hk => ⟨hk.1, hk.2⟩); clear h0; have Z1 := Aside0.mk (Below.size hb); have n0_ := Aside0.mk (below_step HB.out hb); clear HB; have HB := n0_; clear n0_; clear hb)
      | ((with_reducible refine gate_callee (f := 7) rfl ?_); (try (refine gate_guard (by rfl) ?_; dsimp only)); refine goesL_ (some 21) rfl rfl Try.func7 (by kernel_rfl) rfl #[.slice Au0_0 yx0_0.length cu0_0, .int .i64 a1] rfl (by (try simp only [List.map_toArray, List.map_cons, List.map_nil]); first | done | rfl) ?_; (with_reducible refine (spec_ToldTo.calls k _ _ yx0_0 a1 wr _ (Kd.S_reads' Hu0_0.out).2.2 (Kd.S_reads' Hu0_0.out).2.1 FW.out).mono ?_); rintro e z53 ⟨v0, rfl, h0, hb⟩; refine ⟨_, rfl, ?_⟩; obtain ⟨Aw0_0, cw0_0, eo_⟩ := Kd.S_slice h0; subst eo_; have Hw0_0 := Aside0.mk (show Kd.S k77 77 z53 w.heap.size (fun k_ => z52.heap.size ≤ k_ ∧ k_ < z53.heap.size) (.slice Aw0_0 wr.length cw0_0) wr from Kd.S_lower (Kd.S_mono (Kd.S_bound (h0)) (fun k_ hk => ⟨hk.2.1, hk.2.2.1⟩)) (Below.size HB.out)); have Iw0_0 := Aside0.mk (show ∀ k_, ((fun k_ => z52.heap.size ≤ k_ ∧ k_ < z53.heap.size) k_) → z52.heap.size ≤ k_ ∧ k_ < z53.heap.size from fun k_ hk => ⟨hk.1, hk.2⟩); clear h0; have Z2 := Aside0.mk (Below.size hb); have n0_ := Aside0.mk (Kd.S_below Hu0_0.out hb); have n1_ := Aside0.mk (below_step HB.out hb); clear Hu0_0 HB; have Hu0_0 := n0_; have HB := n1_; clear n0_ n1_; clear hb; clear Hu0_0 Iu0_0)
      | ((with_reducible refine gate_callee (f := 8) rfl ?_); (try (refine gate_guard (by rfl) ?_; dsimp only)); refine goesL_ (some 23) rfl rfl Try.func8 (by kernel_rfl) rfl #[.slice A0 l0.length c0] rfl (by (try simp only [List.map_toArray, List.map_cons, List.map_nil]); first | done | rfl) ?_; (with_reducible refine (laws_toToldS.calls k _ _ l0 yx0_0 _ (Kd.C_below HR0.out HB.out) HC0.out FT0.out).mono ?_); rintro e z54 ⟨v0, rfl, h0, hb⟩; refine ⟨_, rfl, ?_⟩; obtain ⟨Ax0_0, cx0_0, eo_⟩ := Kd.S_slice h0; subst eo_; have Hx0_0 := Aside0.mk (show Kd.S k79 79 z54 w.heap.size (fun k_ => z53.heap.size ≤ k_ ∧ k_ < z54.heap.size) (.slice Ax0_0 yx0_0.length cx0_0) yx0_0 from Kd.S_lower (Kd.S_mono (Kd.S_bound (h0)) (fun k_ hk => ⟨hk.2.1, hk.2.2.1⟩)) (Below.size HB.out)); have Ix0_0 := Aside0.mk (show ∀ k_, ((fun k_ => z53.heap.size ≤ k_ ∧ k_ < z54.heap.size) k_) → z53.heap.size ≤ k_ ∧ k_ < z54.heap.size from fun k_ hk => ⟨hk.1, hk.2⟩); clear h0; have Z3 := Aside0.mk (Below.size hb); have n0_ := Aside0.mk (Kd.S_below Hw0_0.out hb); have n1_ := Aside0.mk (below_step HB.out hb); clear Hw0_0 HB; have Hw0_0 := n0_; have HB := n1_; clear n0_ n1_; clear hb)
      | ((with_reducible refine gate_callee (f := 9) rfl ?_); (try (refine gate_guard (by rfl) ?_; dsimp only)); refine goesL_ (some 26) rfl rfl Try.func9 (by kernel_rfl) rfl #[.slice Ax0_0 yx0_0.length cx0_0, .int .i64 a1] rfl (by (try simp only [List.map_toArray, List.map_cons, List.map_nil]); first | done | rfl) ?_; (with_reducible refine (impl_ToldTo.calls k _ _ yx0_0 a1 gr _ (Kd.S_reads' Hx0_0.out).2.2 (Kd.S_reads' Hx0_0.out).2.1 FG.out).mono ?_); rintro e z55 ⟨v0, rfl, h0, hb⟩; refine ⟨_, rfl, ?_⟩; obtain ⟨Ag0_0, cg0_0, eo_⟩ := Kd.S_slice h0; subst eo_; have Hg0_0 := Aside0.mk (show Kd.S k77 77 z55 w.heap.size (fun k_ => z54.heap.size ≤ k_ ∧ k_ < z55.heap.size) (.slice Ag0_0 gr.length cg0_0) gr from Kd.S_lower (Kd.S_mono (Kd.S_bound (h0)) (fun k_ hk => ⟨hk.2.1, hk.2.2.1⟩)) (Below.size HB.out)); have Ig0_0 := Aside0.mk (show ∀ k_, ((fun k_ => z54.heap.size ≤ k_ ∧ k_ < z55.heap.size) k_) → z54.heap.size ≤ k_ ∧ k_ < z55.heap.size from fun k_ hk => ⟨hk.1, hk.2⟩); clear h0; have Z4 := Aside0.mk (Below.size hb); have n0_ := Aside0.mk (Kd.S_below Hw0_0.out hb); have n1_ := Aside0.mk (Kd.S_below Hx0_0.out hb); have n2_ := Aside0.mk (below_step HB.out hb); clear Hw0_0 Hx0_0 HB; have Hw0_0 := n0_; have Hx0_0 := n1_; have HB := n2_; clear n0_ n1_ n2_; clear hb)
      | ((with_reducible refine gate_callee (f := 10) rfl ?_); (try (refine gate_guard (by rfl) ?_; dsimp only)); refine goesL_ (some 29) rfl rfl Try.func10 (by kernel_rfl) rfl #[.slice Ag0_0 gr.length cg0_0, .slice Aw0_0 wr.length cw0_0] rfl (by (try simp only [List.map_toArray, List.map_cons, List.map_nil]); first | done | rfl) ?_; (with_reducible refine (laws_eqResultS.calls k _ _ gr _ _ wr true _ (Kd.S_reads' Hg0_0.out).2.2 (Kd.S_reads' Hg0_0.out).2.1 (Kd.S_reads' Hw0_0.out).2.2 (Kd.S_reads' Hw0_0.out).2.1 FE0.out).mono ?_); rintro e z56 ⟨rfl, hb0⟩; refine ⟨_, rfl, ?_⟩; have hb : Below _ _ z56 := (by first | exact hb0 | exact hb0.below); have Z5 := Aside0.mk (Below.size hb); have n0_ := Aside0.mk (Kd.S_below Hw0_0.out hb); have n1_ := Aside0.mk (Kd.S_below Hx0_0.out hb); have n2_ := Aside0.mk (Kd.S_below Hg0_0.out hb); have n3_ := Aside0.mk (below_step HB.out hb); clear Hw0_0 Hx0_0 Hg0_0 HB; have Hw0_0 := n0_; have Hx0_0 := n1_; have Hg0_0 := n2_; have HB := n3_; clear n0_ n1_ n2_ n3_; clear hb hb0)
      | ((with_reducible refine gate_callee (f := 8) rfl ?_); (try (refine gate_guard (by rfl) ?_; dsimp only)); refine goesL_ (some 33) rfl rfl Try.func8 (by kernel_rfl) rfl #[.slice A0 l0.length c0] rfl (by (try simp only [List.map_toArray, List.map_cons, List.map_nil]); first | done | rfl) ?_; (with_reducible refine (laws_toToldS.calls k _ _ l0 yx0_0 _ (Kd.C_below HR0.out HB.out) HC0.out FT0.out).mono ?_); rintro e z57 ⟨v0, rfl, h0, hb⟩; refine ⟨_, rfl, ?_⟩; obtain ⟨Ad0_0, cd0_0, eo_⟩ := Kd.S_slice h0; subst eo_; have Hd0_0 := Aside0.mk (show Kd.S k79 79 z57 w.heap.size (fun k_ => z56.heap.size ≤ k_ ∧ k_ < z57.heap.size) (.slice Ad0_0 yx0_0.length cd0_0) yx0_0 from Kd.S_lower (Kd.S_mono (Kd.S_bound (h0)) (fun k_ hk => ⟨hk.2.1, hk.2.2.1⟩)) (Below.size HB.out)); have Id0_0 := Aside0.mk (show ∀ k_, ((fun k_ => z56.heap.size ≤ k_ ∧ k_ < z57.heap.size) k_) → z56.heap.size ≤ k_ ∧ k_ < z57.heap.size from fun k_ hk => ⟨hk.1, hk.2⟩); clear h0; have Z6 := Aside0.mk (Below.size hb); have n0_ := Aside0.mk (Kd.S_below Hw0_0.out hb); have n1_ := Aside0.mk (Kd.S_below Hx0_0.out hb); have n2_ := Aside0.mk (Kd.S_below Hg0_0.out hb); have n3_ := Aside0.mk (below_step HB.out hb); clear Hw0_0 Hx0_0 Hg0_0 HB; have Hw0_0 := n0_; have Hx0_0 := n1_; have Hg0_0 := n2_; have HB := n3_; clear n0_ n1_ n2_ n3_; clear hb)
      | ((with_reducible refine gate_callee (f := 11) rfl ?_); (try (refine gate_guard (by rfl) ?_; dsimp only)); refine goesL_ (some 34) rfl rfl Try.func11 (by kernel_rfl) rfl #[.slice Ax0_0 yx0_0.length cx0_0, .slice Ad0_0 yx0_0.length cd0_0] rfl (by (try simp only [List.map_toArray, List.map_cons, List.map_nil]); first | done | rfl) ?_; (with_reducible refine (laws_eqToldS.calls k _ _ yx0_0 _ _ yx0_0 true _ (Kd.S_reads' Hx0_0.out).2.2 (Kd.S_reads' Hx0_0.out).2.1 (Kd.S_reads' Hd0_0.out).2.2 (Kd.S_reads' Hd0_0.out).2.1 FE1.out).mono ?_); rintro e z58 ⟨rfl, hb0⟩; refine ⟨_, rfl, ?_⟩; have hb : Below _ _ z58 := (by first | exact hb0 | exact hb0.below); have Z7 := Aside0.mk (Below.size hb); have n0_ := Aside0.mk (Kd.S_below Hw0_0.out hb); have n1_ := Aside0.mk (Kd.S_below Hx0_0.out hb); have n2_ := Aside0.mk (Kd.S_below Hg0_0.out hb); have n3_ := Aside0.mk (Kd.S_below Hd0_0.out hb); have n4_ := Aside0.mk (below_step HB.out hb); clear Hw0_0 Hx0_0 Hg0_0 Hd0_0 HB; have Hw0_0 := n0_; have Hx0_0 := n1_; have Hg0_0 := n2_; have Hd0_0 := n3_; have HB := n4_; clear n0_ n1_ n2_ n3_ n4_; clear hb hb0; clear Hd0_0 Id0_0)
      | ((with_reducible refine gate_callee (f := 12) rfl ?_); (try (refine gate_guard (by rfl) ?_; dsimp only)); refine goesL_ (some 38) rfl rfl Try.func12 (by kernel_rfl) rfl #[.slice Ax0_0 yx0_0.length cx0_0, .int .i64 1] rfl (by (try simp only [List.map_toArray, List.map_cons, List.map_nil]); first | done | rfl) ?_; refine (laws_markToldS.calls k  (fun k_ => z53.heap.size ≤ k_ ∧ k_ < z54.heap.size) (.slice Ax0_0 yx0_0.length cx0_0) yx0_0  1 m0 q0_0 w _ HB.out Hx0_0.out FM0.out).mono ?_; rintro e z59 ⟨rfl, -, hb, hkp⟩; refine ⟨_, rfl, ?_⟩; have Z8 := Aside0.mk hkp.1; have n0_ := Aside0.mk (Kd.S_step Hw0_0.out (fun k_ hk hlt => hkp.2 k_ hlt (fun hq => (by have z0_ := Z0.out; have z1_ := Z1.out; have z2_ := Z2.out; have z3_ := Z3.out; have z4_ := Z4.out; have z5_ := Z5.out; have z6_ := Z6.out; have z7_ := Z7.out; have i_ := Iw0_0.out k_ hk; have q_ := Ix0_0.out k_ hq; omega)))); have n1_ := Aside0.mk (Kd.S_step Hg0_0.out (fun k_ hk hlt => hkp.2 k_ hlt (fun hq => (by have z0_ := Z0.out; have z1_ := Z1.out; have z2_ := Z2.out; have z3_ := Z3.out; have z4_ := Z4.out; have z5_ := Z5.out; have z6_ := Z6.out; have z7_ := Z7.out; have i_ := Ig0_0.out k_ hk; have q_ := Ix0_0.out k_ hq; omega)))); have n2_ := Aside0.mk (hb); clear Hw0_0 Hg0_0 HB; have Hw0_0 := n0_; have Hg0_0 := n1_; have HB := n2_; clear n0_ n1_ n2_; clear hkp; clear Hx0_0 Ix0_0)
      | ((with_reducible refine gate_callee (f := 10) rfl ?_); (try (refine gate_guard (by rfl) ?_; dsimp only)); refine goesL_ (some 44) rfl rfl Try.func10 (by kernel_rfl) rfl #[.slice Ag0_0 gr.length cg0_0, .slice Aw0_0 wr.length cw0_0] rfl (by (try simp only [List.map_toArray, List.map_cons, List.map_nil]); first | done | rfl) ?_; (with_reducible refine (laws_eqResultS.calls k _ _ gr _ _ wr true _ (Kd.S_reads' Hg0_0.out).2.2 (Kd.S_reads' Hg0_0.out).2.1 (Kd.S_reads' Hw0_0.out).2.2 (Kd.S_reads' Hw0_0.out).2.1 FE0.out).mono ?_); rintro e z60 ⟨rfl, hb0⟩; refine ⟨_, rfl, ?_⟩; have hb : Below _ _ z60 := (by first | exact hb0 | exact hb0.below); have Z9 := Aside0.mk (Below.size hb); have n0_ := Aside0.mk (Kd.S_below Hw0_0.out hb); have n1_ := Aside0.mk (Kd.S_below Hg0_0.out hb); have n2_ := Aside0.mk (below_step HB.out hb); clear Hw0_0 Hg0_0 HB; have Hw0_0 := n0_; have Hg0_0 := n1_; have HB := n2_; clear n0_ n1_ n2_; clear hb hb0)
      | ((with_reducible refine gate_callee (f := 13) rfl ?_); (try (refine gate_guard (by rfl) ?_; dsimp only)); refine goesL_ (some 49) rfl rfl Try.func13 (by kernel_rfl) rfl #[.slice Ag0_0 gr.length cg0_0, .int .i64 1] rfl (by (try simp only [List.map_toArray, List.map_cons, List.map_nil]); first | done | rfl) ?_; refine (laws_markResultS.calls k (fun k_ => z54.heap.size ≤ k_ ∧ k_ < z55.heap.size) (.slice Ag0_0 gr.length cg0_0) gr 1 hd g2 w _ HB.out Hg0_0.out FMG.out).mono ?_; rintro e z61 ⟨rfl, hr, hb, hkp⟩; refine ⟨_, rfl, ?_⟩; have Z10 := Aside0.mk hkp.1; have n0_ := Aside0.mk (Kd.S_step Hw0_0.out (fun k_ hk hlt => hkp.2 k_ hlt (fun hq => (by have z0_ := Z0.out; have z1_ := Z1.out; have z2_ := Z2.out; have z3_ := Z3.out; have z4_ := Z4.out; have z5_ := Z5.out; have z6_ := Z6.out; have z7_ := Z7.out; have z8_ := Z8.out; have z9_ := Z9.out; have i_ := Iw0_0.out k_ hk; have q_ := Ig0_0.out k_ hq; omega)))); have n1_ := Aside0.mk (hb); have n2_ := Aside0.mk (hr); clear Hw0_0 HB Hg0_0; have Hw0_0 := n0_; have HB := n1_; have Hg0_0 := n2_; clear n0_ n1_ n2_; clear hkp hr)
      | ((with_reducible refine gate_callee (f := 14) rfl ?_); (try (refine gate_guard (by rfl) ?_; dsimp only)); refine goesL_ (some 52) rfl rfl Try.func14 (by kernel_rfl) rfl #[.slice Ag0_0 gr.length cg0_0, .int .i64 1] rfl (by (try simp only [List.map_toArray, List.map_cons, List.map_nil]); first | done | rfl) ?_; (with_reducible refine (held_ResultS k (Kd.S_reads' Hg0_0.out) FH.out).mono ?_); rintro e z62 ⟨rfl, hb0⟩; refine ⟨_, rfl, ?_⟩; have hb : Below _ _ z62 := (by first | exact hb0 | exact hb0.below); have Z11 := Aside0.mk (Below.size hb); have n0_ := Aside0.mk (Kd.S_below Hw0_0.out hb); have n1_ := Aside0.mk (Kd.S_below Hg0_0.out hb); have n2_ := Aside0.mk (below_step HB.out hb); clear Hw0_0 Hg0_0 HB; have Hw0_0 := n0_; have Hg0_0 := n1_; have HB := n2_; clear n0_ n1_ n2_; clear hb hb0)
      | ((with_reducible refine gate_callee (f := 8) rfl ?_); (try (refine gate_guard (by rfl) ?_; dsimp only)); refine goesL_ (some 59) rfl rfl Try.func8 (by kernel_rfl) rfl #[.slice A0 l0.length c0] rfl (by (try simp only [List.map_toArray, List.map_cons, List.map_nil]); first | done | rfl) ?_; (with_reducible refine (laws_toToldS.calls k _ _ l0 yx0_0 _ (Kd.C_below HR0.out HB.out) HC0.out FT0.out).mono ?_); rintro e z63 ⟨v0, rfl, h0, hb⟩; refine ⟨_, rfl, ?_⟩; obtain ⟨Aj0_0, cj0_0, eo_⟩ := Kd.S_slice h0; subst eo_; have Hj0_0 := Aside0.mk (show Kd.S k79 79 z63 w.heap.size (fun k_ => z62.heap.size ≤ k_ ∧ k_ < z63.heap.size) (.slice Aj0_0 yx0_0.length cj0_0) yx0_0 from Kd.S_lower (Kd.S_mono (Kd.S_bound (h0)) (fun k_ hk => ⟨hk.2.1, hk.2.2.1⟩)) (Below.size HB.out)); have Ij0_0 := Aside0.mk (show ∀ k_, ((fun k_ => z62.heap.size ≤ k_ ∧ k_ < z63.heap.size) k_) → z62.heap.size ≤ k_ ∧ k_ < z63.heap.size from fun k_ hk => ⟨hk.1, hk.2⟩); clear h0; have Z12 := Aside0.mk (Below.size hb); have n0_ := Aside0.mk (Kd.S_below Hw0_0.out hb); have n1_ := Aside0.mk (Kd.S_below Hg0_0.out hb); have n2_ := Aside0.mk (below_step HB.out hb); clear Hw0_0 Hg0_0 HB; have Hw0_0 := n0_; have Hg0_0 := n1_; have HB := n2_; clear n0_ n1_ n2_; clear hb)
      | ((with_reducible refine gate_callee (f := 9) rfl ?_); (try (refine gate_guard (by rfl) ?_; dsimp only)); refine goesL_ (some 61) rfl rfl Try.func9 (by kernel_rfl) rfl #[.slice Aj0_0 yx0_0.length cj0_0, .int .i64 a1] rfl (by (try simp only [List.map_toArray, List.map_cons, List.map_nil]); first | done | rfl) ?_; (with_reducible refine (impl_ToldTo.calls k _ _ yx0_0 a1 gr _ (Kd.S_reads' Hj0_0.out).2.2 (Kd.S_reads' Hj0_0.out).2.1 FG.out).mono ?_); rintro e z64 ⟨v0, rfl, h0, hb⟩; refine ⟨_, rfl, ?_⟩; obtain ⟨Ah0_0, ch0_0, eo_⟩ := Kd.S_slice h0; subst eo_; have Hh0_0 := Aside0.mk (show Kd.S k77 77 z64 w.heap.size (fun k_ => z63.heap.size ≤ k_ ∧ k_ < z64.heap.size) (.slice Ah0_0 gr.length ch0_0) gr from Kd.S_lower (Kd.S_mono (Kd.S_bound (h0)) (fun k_ hk => ⟨hk.2.1, hk.2.2.1⟩)) (Below.size HB.out)); have Ih0_0 := Aside0.mk (show ∀ k_, ((fun k_ => z63.heap.size ≤ k_ ∧ k_ < z64.heap.size) k_) → z63.heap.size ≤ k_ ∧ k_ < z64.heap.size from fun k_ hk => ⟨hk.1, hk.2⟩); clear h0; have Z13 := Aside0.mk (Below.size hb); have n0_ := Aside0.mk (Kd.S_below Hw0_0.out hb); have n1_ := Aside0.mk (Kd.S_below Hg0_0.out hb); have n2_ := Aside0.mk (Kd.S_below Hj0_0.out hb); have n3_ := Aside0.mk (below_step HB.out hb); clear Hw0_0 Hg0_0 Hj0_0 HB; have Hw0_0 := n0_; have Hg0_0 := n1_; have Hj0_0 := n2_; have HB := n3_; clear n0_ n1_ n2_ n3_; clear hb; clear Hj0_0 Ij0_0)
      | ((with_reducible refine gate_callee (f := 10) rfl ?_); (try (refine gate_guard (by rfl) ?_; dsimp only)); refine goesL_ (some 64) rfl rfl Try.func10 (by kernel_rfl) rfl #[.slice Ah0_0 gr.length ch0_0, .slice Aw0_0 wr.length cw0_0] rfl (by (try simp only [List.map_toArray, List.map_cons, List.map_nil]); first | done | rfl) ?_; (with_reducible refine (laws_eqResultS.calls k _ _ gr _ _ wr true _ (Kd.S_reads' Hh0_0.out).2.2 (Kd.S_reads' Hh0_0.out).2.1 (Kd.S_reads' Hw0_0.out).2.2 (Kd.S_reads' Hw0_0.out).2.1 FE0.out).mono ?_); rintro e z65 ⟨rfl, hb0⟩; refine ⟨_, rfl, ?_⟩; have hb : Below _ _ z65 := (by first | exact hb0 | exact hb0.below); have Z14 := Aside0.mk (Below.size hb); have n0_ := Aside0.mk (Kd.S_below Hw0_0.out hb); have n1_ := Aside0.mk (Kd.S_below Hg0_0.out hb); have n2_ := Aside0.mk (Kd.S_below Hh0_0.out hb); have n3_ := Aside0.mk (below_step HB.out hb); clear Hw0_0 Hg0_0 Hh0_0 HB; have Hw0_0 := n0_; have Hg0_0 := n1_; have Hh0_0 := n2_; have HB := n3_; clear n0_ n1_ n2_ n3_; clear hb hb0)
      | ((with_reducible refine gate_callee (f := 14) rfl ?_); (try (refine gate_guard (by rfl) ?_; dsimp only)); refine goesL_ (some 68) rfl rfl Try.func14 (by kernel_rfl) rfl #[.slice Ag0_0 gr.length cg0_0, .int .i64 1] rfl (by (try simp only [List.map_toArray, List.map_cons, List.map_nil]); first | done | rfl) ?_; (with_reducible refine (held_ResultS k (Kd.S_reads' Hg0_0.out) FH.out).mono ?_); rintro e z66 ⟨rfl, hb0⟩; refine ⟨_, rfl, ?_⟩; have hb : Below _ _ z66 := (by first | exact hb0 | exact hb0.below); have Z15 := Aside0.mk (Below.size hb); have n0_ := Aside0.mk (Kd.S_below Hw0_0.out hb); have n1_ := Aside0.mk (Kd.S_below Hg0_0.out hb); have n2_ := Aside0.mk (Kd.S_below Hh0_0.out hb); have n3_ := Aside0.mk (below_step HB.out hb); clear Hw0_0 Hg0_0 Hh0_0 HB; have Hw0_0 := n0_; have Hg0_0 := n1_; have Hh0_0 := n2_; have HB := n3_; clear n0_ n1_ n2_ n3_; clear hb hb0))
    go_ret
    exact ⟨rfl, HB.out⟩


end Go.Proofs.Ytggfonljcbmjmaa.PFnExactToldTo
