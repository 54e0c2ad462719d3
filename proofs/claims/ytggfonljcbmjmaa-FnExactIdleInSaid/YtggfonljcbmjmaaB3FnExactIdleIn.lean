import Derived.Test.YtggfonljcbmjmaaPFnExactIdleInx7
import Derived.Test.YtggfonljcbmjmaaPFnExactIdleInx8
namespace Go.Proofs.Ytggfonljcbmjmaa.PFnExactIdleIn
open Go.RowKit Go.Proofs.YtggfonljcbmjmaaW.PrintWords Go.Proofs.YtggfonljcbmjmaaW.PrintLast Go.Proofs.YtggfonljcbmjmaaW.PrintMore
set_option linter.unusedVariables false
set_option linter.unusedSimpArgs false
set_option linter.unusedSectionVars false

/-! ### rows with rows inside, marked in place: an element is lent, its cells are written, its rows are handed on -/
section
variable {α : Type} {d : Kd α} {e base n cap g : Nat} {W W' : World} {ok oki P Q : Nat → Prop} {xs : List α} {i : Int} {c : List Value} {v v' : Value}
theorem H_block (h : Kd.H d e W base ok (.slice (some ⟨g, 0, none⟩) n cap) xs i oki c) (h0 : 0 ≤ i) (h1 : i < n) : ∃ cells, W.heap[g]? = some (.cells cells e (0, 0)) := by
  obtain ⟨_, f, hR⟩ := h
  have hn := (Kd.R_reads' hR).1
  obtain ⟨g', cap', hv, _, _, cells, hc⟩ := Kd.R_form hR (by omega)
  injection hv with hv
  injection hv with hv
  injection hv with hv
  subst hv
  exact ⟨cells, hc⟩
theorem H_at (h : Kd.H d e W base ok (.slice (some ⟨g, 0, none⟩) n cap) xs i oki c) (h0 : 0 ≤ i) (h1 : i < n) :
    (∀ j u, c[j]? = some u → W.cell? ⟨g, i.toNat * d.sz + j, none⟩ = some u) ∧ ∀ j, W.frozen? ⟨g, j, none⟩ = false := by
  obtain ⟨cells, hc⟩ := H_block h h0 h1
  obtain ⟨_, _, _, _, _, hcc, _⟩ := Kd.H_raw h h0 h1
  exact ⟨hcc, fun j => blk_frozen hc j⟩
theorem H_put (h : Kd.H d e W base ok (.slice (some ⟨g, 0, none⟩) n cap) xs i oki c) (h0 : 0 ≤ i) (h1 : i < n) (j : Nat) (u : Value) (hj : j + 1 ≤ d.sz) (hu : u.oneCell' = true) :
    Kd.H d e (W.setCell ⟨g, i.toNat * d.sz + j, none⟩ u) base ok (.slice (some ⟨g, 0, none⟩) n cap) xs i oki (c.take j ++ [u] ++ c.drop (j + 1)) ∧ W.grownBy (W.setCell ⟨g, i.toNat * d.sz + j, none⟩ u) (some g) :=
  Kd.H_seg h h0 h1 (seg := [u]) (j := j) hj (fun q hq => by rw [List.mem_singleton.1 hq]; exact hu)
theorem own_apart {β : Type} {d' : Kd β} {e' : Nat} {ys : List β} (h : d.R e W base P v xs) (h' : d'.R e' W base Q v' ys) (hne : e ≠ e') : ∀ k, some k = v.ownBlock → ¬ some k = v'.ownBlock := fun k h1 h2 => by
  obtain ⟨c1, e1⟩ := Kd.R_typed h k h1.symm
  obtain ⟨c2, e2⟩ := Kd.R_typed h' k h2.symm
  rw [e1] at e2
  injection e2 with e2
  injection e2 with _ e2 _
  exact hne e2
end

/-! ### for the laws themselves: a whole struct stored into its own block -/
section
theorem setCells_own (g t : Nat) : ∀ (vs pre rest : List Value) (W : World), W.heap[g]? = some (.cells (pre ++ rest).toArray t (0, 0)) → vs.length = rest.length →
    (W.setCells g pre.length vs).heap[g]? = some (.cells (pre ++ vs).toArray t (0, 0)) ∧ (W.setCells g pre.length vs).heap.size = W.heap.size ∧ (∀ k, k ≠ g → (W.setCells g pre.length vs).heap[k]? = W.heap[k]?) ∧ Below g W (W.setCells g pre.length vs)
  | [], pre, rest, W, hb, hl => by
    obtain rfl : rest = [] := List.length_eq_zero_iff.1 hl.symm
    exact ⟨hb, rfl, fun _ _ => rfl, Below.refl _ _⟩
  | v :: vs, pre, [], W, hb, hl => by cases hl
  | v :: vs, pre, c :: rest, W, hb, hl => by
    have h1 : (W.setCell ⟨g, pre.length, none⟩ v).heap[g]? = some (.cells ((pre ++ [v]) ++ rest).toArray t (0, 0)) := by
      rw [blk_set hb pre.length v]
      congr 2
      apply Array.toList_inj.1
      simp
    have h2 := setCells_own g t vs (pre ++ [v]) rest _ h1 (by simpa using hl)
    have e : (pre ++ [v]).length = pre.length + 1 := by simp
    rw [e] at h2
    obtain ⟨a1, a2, a3, a4⟩ := h2
    refine ⟨?_, ?_, ?_, ?_⟩
    · show ((W.setCell ⟨g, pre.length, none⟩ v).setCells g (pre.length + 1) vs).heap[g]? = _
      rw [a1]
      simp
    · show ((W.setCell ⟨g, pre.length, none⟩ v).setCells g (pre.length + 1) vs).heap.size = _
      rw [a2]
      simp [World.setCell]
    · intro k hk
      show ((W.setCell ⟨g, pre.length, none⟩ v).setCells g (pre.length + 1) vs).heap[k]? = _
      rw [a3 k hk]
      exact Below.heap_setCell W ⟨g, pre.length, none⟩ v k hk
    · exact ((Below.refl g W).setCell (Nat.le_refl g) v).trans a4
theorem store_box {P : Program} {ops : Array Oper} {rest : List Oper} {op : Oper} {a : Act} {w : World} {Q : Exit → Act → World → Prop} (hgd : op.guard = none) (ty : TypeId) (x y : Operand) (ho : op.op = .store ty x y)
    (g t : Nat) (cs cells : List Value) (hx : a.eval x = .pointer (some ⟨g, 0, none⟩)) (hy : a.eval y = .agg cells.toArray)
    (hb : w.heap[g]? = some (.cells cs.toArray t (0, 0))) (hs : cells.length = cs.length) (hi : (P.info? ty).map (·.size) = some cells.length) (h1 : ∀ v ∈ cells, v.oneCell' = true)
    (h : ∀ w1, w1.heap[g]? = some (.cells cells.toArray t (0, 0)) → w1.heap.size = w.heap.size → (∀ k, k ≠ g → w1.heap[k]? = w.heap[k]?) → Below g w w1 → wpList P ops Q rest (a.put op.dst undef) w1) : wpList P ops Q (op :: rest) a w := by
  obtain ⟨a1, a2, a3, a4⟩ := setCells_own g t cells [] cs w hb hs
  refine wpList_store_mid hgd ty x y ho g 0 cells.toArray hx hy ?_ (by rw [hi]; simp) (all_oneCell_toArray h1) (h _ a1 a2 a3 a4)
  intro j hj
  have hj2 : j < cs.length := by simp at hj; omega
  refine ⟨?_, blk_frozen hb _⟩
  rw [Nat.zero_add, blk_cell hb j]
  simp [hj2]
variable {α : Type} {d : Kd α} {e base : Nat} {ok : Nat → Prop} {w0 w W W1 : World} {v : Value} {xs : List α} {g : Nat}
theorem R_away' (h : d.R e W base ok v xs) (hk : ∀ k, k ≠ g → W1.heap[k]? = W.heap[k]?) (hg : ∀ k, ok k → k < g) : d.R e W1 base ok v xs := Kd.R_step h (fun k ho _ => hk k (Nat.ne_of_lt (hg k ho)))
theorem S_away' (h : Kd.S d e W base ok v xs) (hk : ∀ k, k ≠ g → W1.heap[k]? = W.heap[k]?) (hg : ∀ k, ok k → k < g) : Kd.S d e W1 base ok v xs := Kd.S_step h (fun k ho _ => hk k (Nat.ne_of_lt (hg k ho)))
theorem below_store (h : Below w0.heap.size w0 W) (hb : Below g W W1) (hg : w0.heap.size ≤ g) : Below w0.heap.size w0 W1 := h.trans (hb.mono hg)
end

/-! ### laws.markJobS -/
def laws_markJobS.el (k : Nat) (e : S93) (a : Int) : Option (Int × S93) := (laws_markText.f k (wrap64 (a + 1))).bind fun s1 => (laws_markText.f k (wrap64 ((wrap64 (a + 1)) + 1))).bind fun s2 => (laws_markText.f k (wrap64 ((wrap64 ((wrap64 ((wrap64 ((wrap64 (a + 1)) + 1)) + 1)) + 1)) + 1))).bind fun s5 => (laws_markText.f k (wrap64 ((wrap64 ((wrap64 ((wrap64 ((wrap64 ((wrap64 ((wrap64 (a + 1)) + 1)) + 1)) + 1)) + 1)) + 1)) + 1))).bind fun s7 => (laws_markStringS.f k e.f1.f4 (wrap64 ((wrap64 ((wrap64 ((wrap64 ((wrap64 ((wrap64 ((wrap64 ((wrap64 ((wrap64 ((wrap64 (a + 1)) + 1)) + 1)) + 1)) + 1)) + 1)) + 1)) + 1)) + 1)) + 1))).bind fun b10 => (laws_markStepS.f k e.f2 b10.1).bind fun b11 => (laws_markSealingS.f k e.f3 b11.1).bind fun b12 => some (wrap64 ((wrap64 ((wrap64 (b12.1 + 1)) + 1)) + 1), (⟨⟨a, s1, s2, wrap64 ((wrap64 ((wrap64 (a + 1)) + 1)) + 1), wrap64 ((wrap64 ((wrap64 ((wrap64 (a + 1)) + 1)) + 1)) + 1), s5⟩, ⟨wrap64 ((wrap64 ((wrap64 ((wrap64 ((wrap64 ((wrap64 (a + 1)) + 1)) + 1)) + 1)) + 1)) + 1), s7, wrap64 ((wrap64 ((wrap64 ((wrap64 ((wrap64 ((wrap64 ((wrap64 ((wrap64 (a + 1)) + 1)) + 1)) + 1)) + 1)) + 1)) + 1)) + 1), (decide (Int.tmod (wrap64 ((wrap64 ((wrap64 ((wrap64 ((wrap64 ((wrap64 ((wrap64 ((wrap64 ((wrap64 (a + 1)) + 1)) + 1)) + 1)) + 1)) + 1)) + 1)) + 1)) + 1)) 3 = 0)), b10.2⟩, b11.2, b12.2, b12.1, (decide (Int.tmod (wrap64 (b12.1 + 1)) 3 = 0)), (decide (Int.tmod (wrap64 ((wrap64 (b12.1 + 1)) + 1)) 3 = 0))⟩ : S93))
def laws_markJobS.l0 : Nat → List (S93) → Int → Int → Option (Int × List (S93))
  | 0, _, _, _ => none
  | k + 1, x0, x1, x5 => if x5 < (x0.length : Int) then (if 0 ≤ x5 then ((laws_markJobS.el k (rd_T93 x0 x5) x1).bind fun b => laws_markJobS.l0 k (x0.set x5.toNat b.2) b.1 (wrap64 (x5 + 1))) else none) else some (x1, x0)
def laws_markJobS.f (k : Nat) (l0 : List (S93)) (a1 : Int) : Option (Int × List (S93)) := laws_markJobS.l0 k l0 a1 0
theorem laws_markJobS.el_mono (e : S93) (a : Int) (k : Nat) : LeO (laws_markJobS.el k e a) (laws_markJobS.el (k + 1) e a) := by
  unfold laws_markJobS.el
  repeat' first
   | (with_reducible exact laws_markSealingS.mono _ _ _ )
   | (with_reducible exact laws_markStepS.mono _ _ _ )
   | (with_reducible exact laws_markStringS.mono _ _ _ )
   | (with_reducible exact laws_markText.mono _ _ )
   | (with_reducible exact LeO.refl _)
   | (with_reducible refine LeO.bind ?_ (fun _ => ?_))
theorem laws_markJobS.mono_l : ∀ k, (∀ y0 y1 y2, LeO (laws_markJobS.l0 k y0 y1 y2) (laws_markJobS.l0 (k + 1) y0 y1 y2))
  | 0 => fun _ _ _ r h => by simp [laws_markJobS.l0] at h
  | k + 1 => by
    have ih0 := laws_markJobS.mono_l k
    intro y0 y1 y2
    unfold laws_markJobS.l0
    repeat' first
      | (with_reducible exact ih0 _ _ _)
      | (with_reducible exact laws_markJobS.el_mono _ _ _)
      | (with_reducible exact LeO.refl _)
      | (with_reducible exact LeO.none _)
      | (with_reducible refine LeO.ite ?_ ?_)
      | (with_reducible refine LeO.bind ?_ (fun _ => ?_))
theorem laws_markJobS.mono : ∀ a0 a1 k, LeO (laws_markJobS.f k a0 a1) (laws_markJobS.f (k + 1) a0 a1) := fun a0 a1 k => laws_markJobS.mono_l k _ _ _
set_option maxHeartbeats 16000000 in
set_option maxRecDepth 100000 in
theorem laws_markJobS.calls (k : Nat) (P0_ : Nat → Prop) (u9000_ : Value) (l0 : List (S93)) (a1 : Int) (r1 : Int) (r2 : List (S93)) (w0 w : World) (hB : Below w0.heap.size w0 w) (ho0 : Kd.S k93 93 w w0.heap.size P0_ u9000_ l0) (h : laws_markJobS.f k l0 a1 = some (r1, r2)) :
    Calls Try.prog 50 #[u9000_, .int .i64 a1] w fun e w' => e = .returned (.int .i64 r1) ∧ Kd.S k93 93 w' w0.heap.size P0_ u9000_ r2 ∧ Below w0.heap.size w0 w' ∧ Kept w w' P0_ := by
  have HO0 := Aside0.mk ho0
  have HK := Aside0.mk (Kept.refl w P0_)
  have HB := Aside0.mk hB
  clear hB ho0
  have H' := Aside0.mk (show laws_markJobS.l0 k l0 a1 0 = some (r1, r2) from h)
  clear h
  have hu_Job := Try.underlying93
  have hu_Ask := Try.underlying90
  have hu_Result := Try.underlying77
  obtain ⟨A0_, c0_, e0_⟩ := Kd.S_slice HO0.out
  go_enter Try.func50, Try.ntmps50
  go_wp2
  go_loopg [1, 5] k (fun kq v1 v5 w' => ∃ (x0_1 : List (S93)) (x1_1 : Int) (x5_1 : Int), v1 = .int .i64 x1_1 ∧ v5 = .int .i64 x5_1 ∧ Aside0 (laws_markJobS.l0 kq x0_1 x1_1 x5_1 = some (r1, r2)) ∧ Aside0 (kq ≤ k) ∧ Aside0 (Kd.S k93 93 w' w0.heap.size P0_ u9000_ x0_1) ∧ Aside0 (Kept w w' P0_) ∧ Aside0 (Below w0.heap.size w0 w'))
  case atStart => exact ⟨l0, a1, 0, rfl, rfl, H', ⟨Nat.le_refl _⟩, HO0, HK, HB⟩
  case round =>
    clear H' HO0 HK HB
    obtain ⟨x0_1, x1_1, x5_1, rfl, rfl, HA, HK1, HO_0, HK, HB⟩ := hrel
    cases gk with
    | zero => exact absurd HA.out (by simp [laws_markJobS.l0])
    | succ k1 =>
      have H := HA.out
      clear HA
      simp only [laws_markJobS.l0] at H
      by_cases c3 : x5_1 < (x0_1.length : Int)
      · rw [if_pos c3] at H
        have c3b0 : decide (x5_1 < (x0_1.length : Int)) = true := decide_eq_true c3
        by_cases c5 : 0 ≤ x5_1
        case neg => rw [if_neg c5] at H; cases H
        rw [if_pos c5] at H
        have c5b0 : decide (0 ≤ x5_1) = true := decide_eq_true c5
        obtain ⟨⟨b1, b2⟩, E0, H⟩ := Option.bind_eq_some_iff.1 H
        have H' := Aside0.mk H
        clear H
        unfold laws_markJobS.el at E0
        obtain ⟨s1, E_s1, E0⟩ := Option.bind_eq_some_iff.1 E0
        obtain ⟨s2, E_s2, E0⟩ := Option.bind_eq_some_iff.1 E0
        obtain ⟨s5, E_s5, E0⟩ := Option.bind_eq_some_iff.1 E0
        obtain ⟨s7, E_s7, E0⟩ := Option.bind_eq_some_iff.1 E0
        obtain ⟨⟨b10x, b10y⟩, E_b10, E0⟩ := Option.bind_eq_some_iff.1 E0
        obtain ⟨⟨b11x, b11y⟩, E_b11, E0⟩ := Option.bind_eq_some_iff.1 E0
        obtain ⟨⟨b12x, b12y⟩, E_b12, E0⟩ := Option.bind_eq_some_iff.1 E0
        simp only [Option.some.injEq, Prod.mk.injEq] at E0
        obtain ⟨eb1, eb2⟩ := E0
        have F_s1 := Aside0.mk E_s1
        clear E_s1
        have F_s2 := Aside0.mk E_s2
        clear E_s2
        have F_s5 := Aside0.mk E_s5
        clear E_s5
        have F_s7 := Aside0.mk E_s7
        clear E_s7
        have F_b10 := Aside0.mk E_b10
        clear E_b10
        have F_b11 := Aside0.mk E_b11
        clear E_b11
        have F_b12 := Aside0.mk E_b12
        clear E_b12
        have EB1 := Aside0.mk eb1
        have EB2 := Aside0.mk eb2
        clear eb1 eb2
        have hlen : 0 < x0_1.length := by omega
        obtain ⟨go, co, eo, gb, gl, cl, HG⟩ := Kd.S_form HO_0.out hlen
        clear hlen
        obtain ⟨oki, ce, hcl, hM, hcc, hfr, hoki, hH⟩ := Kd.S_elem (eo ▸ HO_0.out) z93 x5_1 c5 c3
        have MG := Aside0.mk (HO_0.out.choose_spec.1 go (by rw [eo]; rfl))
        obtain rfl : A0_ = some ⟨go, 0, none⟩ := by rw [e0_] at eo; injection eo
        obtain rfl : c0_ = co := by rw [e0_] at eo; injection eo
        have HL := Aside0.mk (show l0.length = x0_1.length from by rw [e0_] at eo; injection eo)
        have c3b1 : decide (x5_1 < (l0.length : Int)) = true := by rw [HL.out]; exact c3b0
        clear c3b0
        obtain ⟨v10, v11, v12, rfl, g10, g11, g12⟩ := k93_openM hM
        obtain ⟨el, hel⟩ : ∃ el : S93, el = rd_T93 x0_1 x5_1 := ⟨_, rfl⟩
        change Kd.H _ _ _ _ _ _ _ _ _ [.int .i64 (rd_T93 x0_1 x5_1).f0.f0, .string (rd_T93 x0_1 x5_1).f0.f1, .string (rd_T93 x0_1 x5_1).f0.f2, .int .i64 (rd_T93 x0_1 x5_1).f0.f3, .int .i64 (rd_T93 x0_1 x5_1).f0.f4, .string (rd_T93 x0_1 x5_1).f0.f5, .int .i64 (rd_T93 x0_1 x5_1).f1.f0, .string (rd_T93 x0_1 x5_1).f1.f1, .int .i64 (rd_T93 x0_1 x5_1).f1.f2, .bool (rd_T93 x0_1 x5_1).f1.f3, v10, v11, v12, .int .i64 (rd_T93 x0_1 x5_1).f4, .bool (rd_T93 x0_1 x5_1).f5, .bool (rd_T93 x0_1 x5_1).f6] at hH
        replace g10 : Kd.R Kd.string 9 _ _ _ v10 (rd_T93 x0_1 x5_1).f1.f4 := g10
        replace g11 : Kd.R k162 162 _ _ _ v11 (rd_T93 x0_1 x5_1).f2 := g11
        replace g12 : Kd.R k131 131 _ _ _ v12 (rd_T93 x0_1 x5_1).f3 := g12
        rw [← hel] at hH g10 g11 g12
        rw [← hel] at F_b10
        rw [← hel] at F_b11
        rw [← hel] at F_b12
        have HS10 := Aside0.mk (fun (k_ : Nat) (hk : some k_ = v10.ownBlock) => g10.1 k_ hk.symm)
        have HN10 := Aside0.mk (fun (k_ : Nat) (hk : some k_ = v10.ownBlock) => (hoki k_ (g10.1 k_ hk.symm)).2)
        have HP10 := Aside0.mk (fun (k_ : Nat) (hk : some k_ = v10.ownBlock) => (hoki k_ (g10.1 k_ hk.symm)).1)
        have HA10_11 := Aside0.mk (own_apart g10 g11 (by decide))
        have HA10_12 := Aside0.mk (own_apart g10 g12 (by decide))
        have HS11 := Aside0.mk (fun (k_ : Nat) (hk : some k_ = v11.ownBlock) => g11.1 k_ hk.symm)
        have HN11 := Aside0.mk (fun (k_ : Nat) (hk : some k_ = v11.ownBlock) => (hoki k_ (g11.1 k_ hk.symm)).2)
        have HP11 := Aside0.mk (fun (k_ : Nat) (hk : some k_ = v11.ownBlock) => (hoki k_ (g11.1 k_ hk.symm)).1)
        have HA11_10 := Aside0.mk (own_apart g11 g10 (by decide))
        have HA11_12 := Aside0.mk (own_apart g11 g12 (by decide))
        have HS12 := Aside0.mk (fun (k_ : Nat) (hk : some k_ = v12.ownBlock) => g12.1 k_ hk.symm)
        have HN12 := Aside0.mk (fun (k_ : Nat) (hk : some k_ = v12.ownBlock) => (hoki k_ (g12.1 k_ hk.symm)).2)
        have HP12 := Aside0.mk (fun (k_ : Nat) (hk : some k_ = v12.ownBlock) => (hoki k_ (g12.1 k_ hk.symm)).1)
        have HA12_10 := Aside0.mk (own_apart g12 g10 (by decide))
        have HA12_11 := Aside0.mk (own_apart g12 g11 (by decide))
        have HR10 := Aside0.mk (Kd.R_tight rfl g10)
        have HR11 := Aside0.mk (Kd.R_tight rfl g11)
        have HR12 := Aside0.mk (Kd.R_tight rfl g12)
        have HH := Aside0.mk hH
        have GB := Aside0.mk gb
        have C5 := Aside0.mk c5
        have C3 := Aside0.mk c3
        have HEL := Aside0.mk hel
        clear c3 c5 hH gb gl cl HG hM hcl hcc hfr hoki hel eo HO_0 g10 g11 g12
        subst e0_
        have p5 := eq_true C5.out
        have q5 : (x5_1 < (l0.length : Int)) = True := eq_true (by rw [HL.out]; exact C3.out)
        have hx : World.cell? _ ⟨go, (x5_1 : Int).toNat * 16, none⟩ = some (.int .i64 el.f0.f0) := (H_at HH.out C5.out C3.out).1 0 _ rfl
        have hf : World.frozen? _ ⟨go, (x5_1 : Int).toNat * 16, none⟩ = false := (H_at HH.out C5.out C3.out).2 _
        go_wp2_with (first
          | ((with_reducible refine gate_store (t := 3) (p := 17) rfl ?_); refine store_event (t := 3) (p := 17) (v := ?vo_z1) (w1 := (wr.setCell ⟨go, (x5_1 : Int).toNat * 16, none⟩ (.int .i64 x1_1))) ?hg ?ho ?hn ?hr ?_; (case ho => rfl); (case hg => rfl); (case hn => rfl); (case hr => first | (go_simp; done) | (go_simp; rfl)); intro z1 hw; have st := H_put HH.out C5.out C3.out 0 (.int .i64 x1_1) (by decide) rfl; have hg : World.grownBy wr z1 (some go) := (by rw [hw]; exact st.2); have n0_ := Aside0.mk (show Kd.H k93 93 z1 w0.heap.size P0_ (.slice (some ⟨go, 0, none⟩) x0_1.length c0_) x0_1 x5_1 oki [.int .i64 x1_1, .string el.f0.f1, .string el.f0.f2, .int .i64 el.f0.f3, .int .i64 el.f0.f4, .string el.f0.f5, .int .i64 el.f1.f0, .string el.f1.f1, .int .i64 el.f1.f2, .bool el.f1.f3, v10, v11, v12, .int .i64 el.f4, .bool el.f5, .bool el.f6] from (by rw [hw]; exact st.1)); have n1_ := Aside0.mk (Kd.R_grown HR10.out hg (fun k_ hk e_ => HN10.out k_ hk (by injection e_))); have n2_ := Aside0.mk (Kd.R_grown HR11.out hg (fun k_ hk e_ => HN11.out k_ hk (by injection e_))); have n3_ := Aside0.mk (Kd.R_grown HR12.out hg (fun k_ hk e_ => HN12.out k_ hk (by injection e_))); have n4_ := Aside0.mk (Kept.of_grown hg HK.out (fun k_ e_ => .inl (by injection e_ with e_; subst e_; exact MG.out))); have n5_ := Aside0.mk (show Below w0.heap.size w0 z1 from (by rw [hw]; exact below_set HB.out GB.out)); clear hw hg st hx hf; clear HH HR10 HR11 HR12 HK HB; have HH := n0_; have HR10 := n1_; have HR11 := n2_; have HR12 := n3_; have HK := n4_; have HB := n5_; clear n0_ n1_ n2_ n3_ n4_ n5_)
          | ((with_reducible refine gate_callee (f := 35) rfl ?_); refine goesL_ (some 23) rfl rfl Try.func35 (by kernel_rfl) rfl #[.int .i64 (wrap64 (x1_1 + 1))] rfl (by (try simp only [List.map_toArray, List.map_cons, List.map_nil]); first | done | rfl) ?_; (with_reducible refine (laws_markText.calls k1 (wrap64 (x1_1 + 1)) s1 _ F_s1.out).mono ?_); rintro e z2 ⟨rfl, hb⟩; refine ⟨_, rfl, ?_⟩; have n0_ := Aside0.mk (Kd.H_below HH.out hb); have n1_ := Aside0.mk (Kd.R_below HR10.out hb); have n2_ := Aside0.mk (Kd.R_below HR11.out hb); have n3_ := Aside0.mk (Kd.R_below HR12.out hb); have n4_ := Aside0.mk (Kept.below HK.out hb); have n5_ := Aside0.mk (below_step HB.out hb); clear hb ; clear HH HR10 HR11 HR12 HK HB; have HH := n0_; have HR10 := n1_; have HR11 := n2_; have HR12 := n3_; have HK := n4_; have HB := n5_; clear n0_ n1_ n2_ n3_ n4_ n5_; have hx : World.cell? z2 ⟨go, (x5_1 : Int).toNat * 16 + 1, none⟩ = some (.string el.f0.f1) := (H_at HH.out C5.out C3.out).1 1 _ rfl; have hf : World.frozen? z2 ⟨go, (x5_1 : Int).toNat * 16 + 1, none⟩ = false := (H_at HH.out C5.out C3.out).2 _)
          | ((with_reducible refine gate_store (t := 9) (p := 26) rfl ?_); refine store_event (t := 9) (p := 26) (v := ?vo_z3) (w1 := (z2.setCell ⟨go, (x5_1 : Int).toNat * 16 + 1, none⟩ (.string s1))) ?hg ?ho ?hn ?hr ?_; (case ho => rfl); (case hg => rfl); (case hn => rfl); (case hr => first | (go_simp; done) | (go_simp; rfl)); intro z3 hw; have st := H_put HH.out C5.out C3.out 1 (.string s1) (by decide) rfl; have hg : World.grownBy z2 z3 (some go) := (by rw [hw]; exact st.2); have n0_ := Aside0.mk (show Kd.H k93 93 z3 w0.heap.size P0_ (.slice (some ⟨go, 0, none⟩) x0_1.length c0_) x0_1 x5_1 oki [.int .i64 x1_1, .string s1, .string el.f0.f2, .int .i64 el.f0.f3, .int .i64 el.f0.f4, .string el.f0.f5, .int .i64 el.f1.f0, .string el.f1.f1, .int .i64 el.f1.f2, .bool el.f1.f3, v10, v11, v12, .int .i64 el.f4, .bool el.f5, .bool el.f6] from (by rw [hw]; exact st.1)); have n1_ := Aside0.mk (Kd.R_grown HR10.out hg (fun k_ hk e_ => HN10.out k_ hk (by injection e_))); have n2_ := Aside0.mk (Kd.R_grown HR11.out hg (fun k_ hk e_ => HN11.out k_ hk (by injection e_))); have n3_ := Aside0.mk (Kd.R_grown HR12.out hg (fun k_ hk e_ => HN12.out k_ hk (by injection e_))); have n4_ := Aside0.mk (Kept.of_grown hg HK.out (fun k_ e_ => .inl (by injection e_ with e_; subst e_; exact MG.out))); have n5_ := Aside0.mk (show Below w0.heap.size w0 z3 from (by rw [hw]; exact below_set HB.out GB.out)); clear hw hg st hx hf; clear HH HR10 HR11 HR12 HK HB; have HH := n0_; have HR10 := n1_; have HR11 := n2_; have HR12 := n3_; have HK := n4_; have HB := n5_; clear n0_ n1_ n2_ n3_ n4_ n5_)
          | ((with_reducible refine gate_callee (f := 35) rfl ?_); refine goesL_ (some 32) rfl rfl Try.func35 (by kernel_rfl) rfl #[.int .i64 (wrap64 ((wrap64 (x1_1 + 1)) + 1))] rfl (by (try simp only [List.map_toArray, List.map_cons, List.map_nil]); first | done | rfl) ?_; (with_reducible refine (laws_markText.calls k1 (wrap64 ((wrap64 (x1_1 + 1)) + 1)) s2 _ F_s2.out).mono ?_); rintro e z4 ⟨rfl, hb⟩; refine ⟨_, rfl, ?_⟩; have n0_ := Aside0.mk (Kd.H_below HH.out hb); have n1_ := Aside0.mk (Kd.R_below HR10.out hb); have n2_ := Aside0.mk (Kd.R_below HR11.out hb); have n3_ := Aside0.mk (Kd.R_below HR12.out hb); have n4_ := Aside0.mk (Kept.below HK.out hb); have n5_ := Aside0.mk (below_step HB.out hb); clear hb ; clear HH HR10 HR11 HR12 HK HB; have HH := n0_; have HR10 := n1_; have HR11 := n2_; have HR12 := n3_; have HK := n4_; have HB := n5_; clear n0_ n1_ n2_ n3_ n4_ n5_; have hx : World.cell? z4 ⟨go, (x5_1 : Int).toNat * 16 + 2, none⟩ = some (.string el.f0.f2) := (H_at HH.out C5.out C3.out).1 2 _ rfl; have hf : World.frozen? z4 ⟨go, (x5_1 : Int).toNat * 16 + 2, none⟩ = false := (H_at HH.out C5.out C3.out).2 _)
          | ((with_reducible refine gate_store (t := 9) (p := 35) rfl ?_); refine store_event (t := 9) (p := 35) (v := ?vo_z5) (w1 := (z4.setCell ⟨go, (x5_1 : Int).toNat * 16 + 2, none⟩ (.string s2))) ?hg ?ho ?hn ?hr ?_; (case ho => rfl); (case hg => rfl); (case hn => rfl); (case hr => first | (go_simp; done) | (go_simp; rfl)); intro z5 hw; have st := H_put HH.out C5.out C3.out 2 (.string s2) (by decide) rfl; have hg : World.grownBy z4 z5 (some go) := (by rw [hw]; exact st.2); have n0_ := Aside0.mk (show Kd.H k93 93 z5 w0.heap.size P0_ (.slice (some ⟨go, 0, none⟩) x0_1.length c0_) x0_1 x5_1 oki [.int .i64 x1_1, .string s1, .string s2, .int .i64 el.f0.f3, .int .i64 el.f0.f4, .string el.f0.f5, .int .i64 el.f1.f0, .string el.f1.f1, .int .i64 el.f1.f2, .bool el.f1.f3, v10, v11, v12, .int .i64 el.f4, .bool el.f5, .bool el.f6] from (by rw [hw]; exact st.1)); have n1_ := Aside0.mk (Kd.R_grown HR10.out hg (fun k_ hk e_ => HN10.out k_ hk (by injection e_))); have n2_ := Aside0.mk (Kd.R_grown HR11.out hg (fun k_ hk e_ => HN11.out k_ hk (by injection e_))); have n3_ := Aside0.mk (Kd.R_grown HR12.out hg (fun k_ hk e_ => HN12.out k_ hk (by injection e_))); have n4_ := Aside0.mk (Kept.of_grown hg HK.out (fun k_ e_ => .inl (by injection e_ with e_; subst e_; exact MG.out))); have n5_ := Aside0.mk (show Below w0.heap.size w0 z5 from (by rw [hw]; exact below_set HB.out GB.out)); clear hw hg st hx hf; clear HH HR10 HR11 HR12 HK HB; have HH := n0_; have HR10 := n1_; have HR11 := n2_; have HR12 := n3_; have HK := n4_; have HB := n5_; clear n0_ n1_ n2_ n3_ n4_ n5_; have hx : World.cell? z5 ⟨go, (x5_1 : Int).toNat * 16 + 3, none⟩ = some (.int .i64 el.f0.f3) := (H_at HH.out C5.out C3.out).1 3 _ rfl; have hf : World.frozen? z5 ⟨go, (x5_1 : Int).toNat * 16 + 3, none⟩ = false := (H_at HH.out C5.out C3.out).2 _)
          | ((with_reducible refine gate_store (t := 3) (p := 43) rfl ?_); refine store_event (t := 3) (p := 43) (v := ?vo_z6) (w1 := (z5.setCell ⟨go, (x5_1 : Int).toNat * 16 + 3, none⟩ (.int .i64 (wrap64 ((wrap64 ((wrap64 (x1_1 + 1)) + 1)) + 1))))) ?hg ?ho ?hn ?hr ?_; (case ho => rfl); (case hg => rfl); (case hn => rfl); (case hr => first | (go_simp; done) | (go_simp; rfl)); intro z6 hw; have st := H_put HH.out C5.out C3.out 3 (.int .i64 (wrap64 ((wrap64 ((wrap64 (x1_1 + 1)) + 1)) + 1))) (by decide) rfl; have hg : World.grownBy z5 z6 (some go) := (by rw [hw]; exact st.2); have n0_ := Aside0.mk (show Kd.H k93 93 z6 w0.heap.size P0_ (.slice (some ⟨go, 0, none⟩) x0_1.length c0_) x0_1 x5_1 oki [.int .i64 x1_1, .string s1, .string s2, .int .i64 (wrap64 ((wrap64 ((wrap64 (x1_1 + 1)) + 1)) + 1)), .int .i64 el.f0.f4, .string el.f0.f5, .int .i64 el.f1.f0, .string el.f1.f1, .int .i64 el.f1.f2, .bool el.f1.f3, v10, v11, v12, .int .i64 el.f4, .bool el.f5, .bool el.f6] from (by rw [hw]; exact st.1)); have n1_ := Aside0.mk (Kd.R_grown HR10.out hg (fun k_ hk e_ => HN10.out k_ hk (by injection e_))); have n2_ := Aside0.mk (Kd.R_grown HR11.out hg (fun k_ hk e_ => HN11.out k_ hk (by injection e_))); have n3_ := Aside0.mk (Kd.R_grown HR12.out hg (fun k_ hk e_ => HN12.out k_ hk (by injection e_))); have n4_ := Aside0.mk (Kept.of_grown hg HK.out (fun k_ e_ => .inl (by injection e_ with e_; subst e_; exact MG.out))); have n5_ := Aside0.mk (show Below w0.heap.size w0 z6 from (by rw [hw]; exact below_set HB.out GB.out)); clear hw hg st hx hf; clear HH HR10 HR11 HR12 HK HB; have HH := n0_; have HR10 := n1_; have HR11 := n2_; have HR12 := n3_; have HK := n4_; have HB := n5_; clear n0_ n1_ n2_ n3_ n4_ n5_; have hx : World.cell? z6 ⟨go, (x5_1 : Int).toNat * 16 + 4, none⟩ = some (.int .i64 el.f0.f4) := (H_at HH.out C5.out C3.out).1 4 _ rfl; have hf : World.frozen? z6 ⟨go, (x5_1 : Int).toNat * 16 + 4, none⟩ = false := (H_at HH.out C5.out C3.out).2 _)
          | ((with_reducible refine gate_store (t := 3) (p := 51) rfl ?_); refine store_event (t := 3) (p := 51) (v := ?vo_z7) (w1 := (z6.setCell ⟨go, (x5_1 : Int).toNat * 16 + 4, none⟩ (.int .i64 (wrap64 ((wrap64 ((wrap64 ((wrap64 (x1_1 + 1)) + 1)) + 1)) + 1))))) ?hg ?ho ?hn ?hr ?_; (case ho => rfl); (case hg => rfl); (case hn => rfl); (case hr => first | (go_simp; done) | (go_simp; rfl)); intro z7 hw; have st := H_put HH.out C5.out C3.out 4 (.int .i64 (wrap64 ((wrap64 ((wrap64 ((wrap64 (x1_1 + 1)) + 1)) + 1)) + 1))) (by decide) rfl; have hg : World.grownBy z6 z7 (some go) := (by rw [hw]; exact st.2); have n0_ := Aside0.mk (show Kd.H k93 93 z7 w0.heap.size P0_ (.slice (some ⟨go, 0, none⟩) x0_1.length c0_) x0_1 x5_1 oki [.int .i64 x1_1, .string s1, .string s2, .int .i64 (wrap64 ((wrap64 ((wrap64 (x1_1 + 1)) + 1)) + 1)), .int .i64 (wrap64 ((wrap64 ((wrap64 ((wrap64 (x1_1 + 1)) + 1)) + 1)) + 1)), .string el.f0.f5, .int .i64 el.f1.f0, .string el.f1.f1, .int .i64 el.f1.f2, .bool el.f1.f3, v10, v11, v12, .int .i64 el.f4, .bool el.f5, .bool el.f6] from (by rw [hw]; exact st.1)); have n1_ := Aside0.mk (Kd.R_grown HR10.out hg (fun k_ hk e_ => HN10.out k_ hk (by injection e_))); have n2_ := Aside0.mk (Kd.R_grown HR11.out hg (fun k_ hk e_ => HN11.out k_ hk (by injection e_))); have n3_ := Aside0.mk (Kd.R_grown HR12.out hg (fun k_ hk e_ => HN12.out k_ hk (by injection e_))); have n4_ := Aside0.mk (Kept.of_grown hg HK.out (fun k_ e_ => .inl (by injection e_ with e_; subst e_; exact MG.out))); have n5_ := Aside0.mk (show Below w0.heap.size w0 z7 from (by rw [hw]; exact below_set HB.out GB.out)); clear hw hg st hx hf; clear HH HR10 HR11 HR12 HK HB; have HH := n0_; have HR10 := n1_; have HR11 := n2_; have HR12 := n3_; have HK := n4_; have HB := n5_; clear n0_ n1_ n2_ n3_ n4_ n5_)
          | ((with_reducible refine gate_callee (f := 35) rfl ?_); refine goesL_ (some 57) rfl rfl Try.func35 (by kernel_rfl) rfl #[.int .i64 (wrap64 ((wrap64 ((wrap64 ((wrap64 ((wrap64 (x1_1 + 1)) + 1)) + 1)) + 1)) + 1))] rfl (by (try simp only [List.map_toArray, List.map_cons, List.map_nil]); first | done | rfl) ?_; (with_reducible refine (laws_markText.calls k1 (wrap64 ((wrap64 ((wrap64 ((wrap64 ((wrap64 (x1_1 + 1)) + 1)) + 1)) + 1)) + 1)) s5 _ F_s5.out).mono ?_); rintro e z8 ⟨rfl, hb⟩; refine ⟨_, rfl, ?_⟩; have n0_ := Aside0.mk (Kd.H_below HH.out hb); have n1_ := Aside0.mk (Kd.R_below HR10.out hb); have n2_ := Aside0.mk (Kd.R_below HR11.out hb); have n3_ := Aside0.mk (Kd.R_below HR12.out hb); have n4_ := Aside0.mk (Kept.below HK.out hb); have n5_ := Aside0.mk (below_step HB.out hb); clear hb ; clear HH HR10 HR11 HR12 HK HB; have HH := n0_; have HR10 := n1_; have HR11 := n2_; have HR12 := n3_; have HK := n4_; have HB := n5_; clear n0_ n1_ n2_ n3_ n4_ n5_; have hx : World.cell? z8 ⟨go, (x5_1 : Int).toNat * 16 + 5, none⟩ = some (.string el.f0.f5) := (H_at HH.out C5.out C3.out).1 5 _ rfl; have hf : World.frozen? z8 ⟨go, (x5_1 : Int).toNat * 16 + 5, none⟩ = false := (H_at HH.out C5.out C3.out).2 _)
          | ((with_reducible refine gate_store (t := 9) (p := 60) rfl ?_); refine store_event (t := 9) (p := 60) (v := ?vo_z9) (w1 := (z8.setCell ⟨go, (x5_1 : Int).toNat * 16 + 5, none⟩ (.string s5))) ?hg ?ho ?hn ?hr ?_; (case ho => rfl); (case hg => rfl); (case hn => rfl); (case hr => first | (go_simp; done) | (go_simp; rfl)); intro z9 hw; have st := H_put HH.out C5.out C3.out 5 (.string s5) (by decide) rfl; have hg : World.grownBy z8 z9 (some go) := (by rw [hw]; exact st.2); have n0_ := Aside0.mk (show Kd.H k93 93 z9 w0.heap.size P0_ (.slice (some ⟨go, 0, none⟩) x0_1.length c0_) x0_1 x5_1 oki [.int .i64 x1_1, .string s1, .string s2, .int .i64 (wrap64 ((wrap64 ((wrap64 (x1_1 + 1)) + 1)) + 1)), .int .i64 (wrap64 ((wrap64 ((wrap64 ((wrap64 (x1_1 + 1)) + 1)) + 1)) + 1)), .string s5, .int .i64 el.f1.f0, .string el.f1.f1, .int .i64 el.f1.f2, .bool el.f1.f3, v10, v11, v12, .int .i64 el.f4, .bool el.f5, .bool el.f6] from (by rw [hw]; exact st.1)); have n1_ := Aside0.mk (Kd.R_grown HR10.out hg (fun k_ hk e_ => HN10.out k_ hk (by injection e_))); have n2_ := Aside0.mk (Kd.R_grown HR11.out hg (fun k_ hk e_ => HN11.out k_ hk (by injection e_))); have n3_ := Aside0.mk (Kd.R_grown HR12.out hg (fun k_ hk e_ => HN12.out k_ hk (by injection e_))); have n4_ := Aside0.mk (Kept.of_grown hg HK.out (fun k_ e_ => .inl (by injection e_ with e_; subst e_; exact MG.out))); have n5_ := Aside0.mk (show Below w0.heap.size w0 z9 from (by rw [hw]; exact below_set HB.out GB.out)); clear hw hg st hx hf; clear HH HR10 HR11 HR12 HK HB; have HH := n0_; have HR10 := n1_; have HR11 := n2_; have HR12 := n3_; have HK := n4_; have HB := n5_; clear n0_ n1_ n2_ n3_ n4_ n5_; have hx : World.cell? z9 ⟨go, (x5_1 : Int).toNat * 16 + 6, none⟩ = some (.int .i64 el.f1.f0) := (H_at HH.out C5.out C3.out).1 6 _ rfl; have hf : World.frozen? z9 ⟨go, (x5_1 : Int).toNat * 16 + 6, none⟩ = false := (H_at HH.out C5.out C3.out).2 _)
          | ((with_reducible refine gate_store (t := 3) (p := 68) rfl ?_); refine store_event (t := 3) (p := 68) (v := ?vo_z10) (w1 := (z9.setCell ⟨go, (x5_1 : Int).toNat * 16 + 6, none⟩ (.int .i64 (wrap64 ((wrap64 ((wrap64 ((wrap64 ((wrap64 ((wrap64 (x1_1 + 1)) + 1)) + 1)) + 1)) + 1)) + 1))))) ?hg ?ho ?hn ?hr ?_; (case ho => rfl); (case hg => rfl); (case hn => rfl); (case hr => first | (go_simp; done) | (go_simp; rfl)); intro z10 hw; have st := H_put HH.out C5.out C3.out 6 (.int .i64 (wrap64 ((wrap64 ((wrap64 ((wrap64 ((wrap64 ((wrap64 (x1_1 + 1)) + 1)) + 1)) + 1)) + 1)) + 1))) (by decide) rfl; have hg : World.grownBy z9 z10 (some go) := (by rw [hw]; exact st.2); have n0_ := Aside0.mk (show Kd.H k93 93 z10 w0.heap.size P0_ (.slice (some ⟨go, 0, none⟩) x0_1.length c0_) x0_1 x5_1 oki [.int .i64 x1_1, .string s1, .string s2, .int .i64 (wrap64 ((wrap64 ((wrap64 (x1_1 + 1)) + 1)) + 1)), .int .i64 (wrap64 ((wrap64 ((wrap64 ((wrap64 (x1_1 + 1)) + 1)) + 1)) + 1)), .string s5, .int .i64 (wrap64 ((wrap64 ((wrap64 ((wrap64 ((wrap64 ((wrap64 (x1_1 + 1)) + 1)) + 1)) + 1)) + 1)) + 1)), .string el.f1.f1, .int .i64 el.f1.f2, .bool el.f1.f3, v10, v11, v12, .int .i64 el.f4, .bool el.f5, .bool el.f6] from (by rw [hw]; exact st.1)); have n1_ := Aside0.mk (Kd.R_grown HR10.out hg (fun k_ hk e_ => HN10.out k_ hk (by injection e_))); have n2_ := Aside0.mk (Kd.R_grown HR11.out hg (fun k_ hk e_ => HN11.out k_ hk (by injection e_))); have n3_ := Aside0.mk (Kd.R_grown HR12.out hg (fun k_ hk e_ => HN12.out k_ hk (by injection e_))); have n4_ := Aside0.mk (Kept.of_grown hg HK.out (fun k_ e_ => .inl (by injection e_ with e_; subst e_; exact MG.out))); have n5_ := Aside0.mk (show Below w0.heap.size w0 z10 from (by rw [hw]; exact below_set HB.out GB.out)); clear hw hg st hx hf; clear HH HR10 HR11 HR12 HK HB; have HH := n0_; have HR10 := n1_; have HR11 := n2_; have HR12 := n3_; have HK := n4_; have HB := n5_; clear n0_ n1_ n2_ n3_ n4_ n5_)
          | ((with_reducible refine gate_callee (f := 35) rfl ?_); refine goesL_ (some 74) rfl rfl Try.func35 (by kernel_rfl) rfl #[.int .i64 (wrap64 ((wrap64 ((wrap64 ((wrap64 ((wrap64 ((wrap64 ((wrap64 (x1_1 + 1)) + 1)) + 1)) + 1)) + 1)) + 1)) + 1))] rfl (by (try simp only [List.map_toArray, List.map_cons, List.map_nil]); first | done | rfl) ?_; (with_reducible refine (laws_markText.calls k1 (wrap64 ((wrap64 ((wrap64 ((wrap64 ((wrap64 ((wrap64 ((wrap64 (x1_1 + 1)) + 1)) + 1)) + 1)) + 1)) + 1)) + 1)) s7 _ F_s7.out).mono ?_); rintro e z11 ⟨rfl, hb⟩; refine ⟨_, rfl, ?_⟩; have n0_ := Aside0.mk (Kd.H_below HH.out hb); have n1_ := Aside0.mk (Kd.R_below HR10.out hb); have n2_ := Aside0.mk (Kd.R_below HR11.out hb); have n3_ := Aside0.mk (Kd.R_below HR12.out hb); have n4_ := Aside0.mk (Kept.below HK.out hb); have n5_ := Aside0.mk (below_step HB.out hb); clear hb ; clear HH HR10 HR11 HR12 HK HB; have HH := n0_; have HR10 := n1_; have HR11 := n2_; have HR12 := n3_; have HK := n4_; have HB := n5_; clear n0_ n1_ n2_ n3_ n4_ n5_; have hx : World.cell? z11 ⟨go, (x5_1 : Int).toNat * 16 + 7, none⟩ = some (.string el.f1.f1) := (H_at HH.out C5.out C3.out).1 7 _ rfl; have hf : World.frozen? z11 ⟨go, (x5_1 : Int).toNat * 16 + 7, none⟩ = false := (H_at HH.out C5.out C3.out).2 _)
          | ((with_reducible refine gate_store (t := 9) (p := 77) rfl ?_); refine store_event (t := 9) (p := 77) (v := ?vo_z12) (w1 := (z11.setCell ⟨go, (x5_1 : Int).toNat * 16 + 7, none⟩ (.string s7))) ?hg ?ho ?hn ?hr ?_; (case ho => rfl); (case hg => rfl); (case hn => rfl); (case hr => first | (go_simp; done) | (go_simp; rfl)); intro z12 hw; have st := H_put HH.out C5.out C3.out 7 (.string s7) (by decide) rfl; have hg : World.grownBy z11 z12 (some go) := (by rw [hw]; exact st.2); have n0_ := Aside0.mk (show Kd.H k93 93 z12 w0.heap.size P0_ (.slice (some ⟨go, 0, none⟩) x0_1.length c0_) x0_1 x5_1 oki [.int .i64 x1_1, .string s1, .string s2, .int .i64 (wrap64 ((wrap64 ((wrap64 (x1_1 + 1)) + 1)) + 1)), .int .i64 (wrap64 ((wrap64 ((wrap64 ((wrap64 (x1_1 + 1)) + 1)) + 1)) + 1)), .string s5, .int .i64 (wrap64 ((wrap64 ((wrap64 ((wrap64 ((wrap64 ((wrap64 (x1_1 + 1)) + 1)) + 1)) + 1)) + 1)) + 1)), .string s7, .int .i64 el.f1.f2, .bool el.f1.f3, v10, v11, v12, .int .i64 el.f4, .bool el.f5, .bool el.f6] from (by rw [hw]; exact st.1)); have n1_ := Aside0.mk (Kd.R_grown HR10.out hg (fun k_ hk e_ => HN10.out k_ hk (by injection e_))); have n2_ := Aside0.mk (Kd.R_grown HR11.out hg (fun k_ hk e_ => HN11.out k_ hk (by injection e_))); have n3_ := Aside0.mk (Kd.R_grown HR12.out hg (fun k_ hk e_ => HN12.out k_ hk (by injection e_))); have n4_ := Aside0.mk (Kept.of_grown hg HK.out (fun k_ e_ => .inl (by injection e_ with e_; subst e_; exact MG.out))); have n5_ := Aside0.mk (show Below w0.heap.size w0 z12 from (by rw [hw]; exact below_set HB.out GB.out)); clear hw hg st hx hf; clear HH HR10 HR11 HR12 HK HB; have HH := n0_; have HR10 := n1_; have HR11 := n2_; have HR12 := n3_; have HK := n4_; have HB := n5_; clear n0_ n1_ n2_ n3_ n4_ n5_; have hx : World.cell? z12 ⟨go, (x5_1 : Int).toNat * 16 + 8, none⟩ = some (.int .i64 el.f1.f2) := (H_at HH.out C5.out C3.out).1 8 _ rfl; have hf : World.frozen? z12 ⟨go, (x5_1 : Int).toNat * 16 + 8, none⟩ = false := (H_at HH.out C5.out C3.out).2 _)
          | ((with_reducible refine gate_store (t := 3) (p := 85) rfl ?_); refine store_event (t := 3) (p := 85) (v := ?vo_z13) (w1 := (z12.setCell ⟨go, (x5_1 : Int).toNat * 16 + 8, none⟩ (.int .i64 (wrap64 ((wrap64 ((wrap64 ((wrap64 ((wrap64 ((wrap64 ((wrap64 ((wrap64 (x1_1 + 1)) + 1)) + 1)) + 1)) + 1)) + 1)) + 1)) + 1))))) ?hg ?ho ?hn ?hr ?_; (case ho => rfl); (case hg => rfl); (case hn => rfl); (case hr => first | (go_simp; done) | (go_simp; rfl)); intro z13 hw; have st := H_put HH.out C5.out C3.out 8 (.int .i64 (wrap64 ((wrap64 ((wrap64 ((wrap64 ((wrap64 ((wrap64 ((wrap64 ((wrap64 (x1_1 + 1)) + 1)) + 1)) + 1)) + 1)) + 1)) + 1)) + 1))) (by decide) rfl; have hg : World.grownBy z12 z13 (some go) := (by rw [hw]; exact st.2); have n0_ := Aside0.mk (show Kd.H k93 93 z13 w0.heap.size P0_ (.slice (some ⟨go, 0, none⟩) x0_1.length c0_) x0_1 x5_1 oki [.int .i64 x1_1, .string s1, .string s2, .int .i64 (wrap64 ((wrap64 ((wrap64 (x1_1 + 1)) + 1)) + 1)), .int .i64 (wrap64 ((wrap64 ((wrap64 ((wrap64 (x1_1 + 1)) + 1)) + 1)) + 1)), .string s5, .int .i64 (wrap64 ((wrap64 ((wrap64 ((wrap64 ((wrap64 ((wrap64 (x1_1 + 1)) + 1)) + 1)) + 1)) + 1)) + 1)), .string s7, .int .i64 (wrap64 ((wrap64 ((wrap64 ((wrap64 ((wrap64 ((wrap64 ((wrap64 ((wrap64 (x1_1 + 1)) + 1)) + 1)) + 1)) + 1)) + 1)) + 1)) + 1)), .bool el.f1.f3, v10, v11, v12, .int .i64 el.f4, .bool el.f5, .bool el.f6] from (by rw [hw]; exact st.1)); have n1_ := Aside0.mk (Kd.R_grown HR10.out hg (fun k_ hk e_ => HN10.out k_ hk (by injection e_))); have n2_ := Aside0.mk (Kd.R_grown HR11.out hg (fun k_ hk e_ => HN11.out k_ hk (by injection e_))); have n3_ := Aside0.mk (Kd.R_grown HR12.out hg (fun k_ hk e_ => HN12.out k_ hk (by injection e_))); have n4_ := Aside0.mk (Kept.of_grown hg HK.out (fun k_ e_ => .inl (by injection e_ with e_; subst e_; exact MG.out))); have n5_ := Aside0.mk (show Below w0.heap.size w0 z13 from (by rw [hw]; exact below_set HB.out GB.out)); clear hw hg st hx hf; clear HH HR10 HR11 HR12 HK HB; have HH := n0_; have HR10 := n1_; have HR11 := n2_; have HR12 := n3_; have HK := n4_; have HB := n5_; clear n0_ n1_ n2_ n3_ n4_ n5_; have hx : World.cell? z13 ⟨go, (x5_1 : Int).toNat * 16 + 9, none⟩ = some (.bool el.f1.f3) := (H_at HH.out C5.out C3.out).1 9 _ rfl; have hf : World.frozen? z13 ⟨go, (x5_1 : Int).toNat * 16 + 9, none⟩ = false := (H_at HH.out C5.out C3.out).2 _)
          | ((with_reducible refine gate_store (t := 4) (p := 95) rfl ?_); refine store_event (t := 4) (p := 95) (v := ?vo_z14) (w1 := (z13.setCell ⟨go, (x5_1 : Int).toNat * 16 + 9, none⟩ (.bool (decide (Int.tmod (wrap64 ((wrap64 ((wrap64 ((wrap64 ((wrap64 ((wrap64 ((wrap64 ((wrap64 ((wrap64 (x1_1 + 1)) + 1)) + 1)) + 1)) + 1)) + 1)) + 1)) + 1)) + 1)) 3 = 0))))) ?hg ?ho ?hn ?hr ?_; (case ho => rfl); (case hg => rfl); (case hn => rfl); (case hr => first | (go_simp; done) | (go_simp; rfl)); intro z14 hw; have st := H_put HH.out C5.out C3.out 9 (.bool (decide (Int.tmod (wrap64 ((wrap64 ((wrap64 ((wrap64 ((wrap64 ((wrap64 ((wrap64 ((wrap64 ((wrap64 (x1_1 + 1)) + 1)) + 1)) + 1)) + 1)) + 1)) + 1)) + 1)) + 1)) 3 = 0))) (by decide) rfl; have hg : World.grownBy z13 z14 (some go) := (by rw [hw]; exact st.2); have n0_ := Aside0.mk (show Kd.H k93 93 z14 w0.heap.size P0_ (.slice (some ⟨go, 0, none⟩) x0_1.length c0_) x0_1 x5_1 oki [.int .i64 x1_1, .string s1, .string s2, .int .i64 (wrap64 ((wrap64 ((wrap64 (x1_1 + 1)) + 1)) + 1)), .int .i64 (wrap64 ((wrap64 ((wrap64 ((wrap64 (x1_1 + 1)) + 1)) + 1)) + 1)), .string s5, .int .i64 (wrap64 ((wrap64 ((wrap64 ((wrap64 ((wrap64 ((wrap64 (x1_1 + 1)) + 1)) + 1)) + 1)) + 1)) + 1)), .string s7, .int .i64 (wrap64 ((wrap64 ((wrap64 ((wrap64 ((wrap64 ((wrap64 ((wrap64 ((wrap64 (x1_1 + 1)) + 1)) + 1)) + 1)) + 1)) + 1)) + 1)) + 1)), .bool (decide (Int.tmod (wrap64 ((wrap64 ((wrap64 ((wrap64 ((wrap64 ((wrap64 ((wrap64 ((wrap64 ((wrap64 (x1_1 + 1)) + 1)) + 1)) + 1)) + 1)) + 1)) + 1)) + 1)) + 1)) 3 = 0)), v10, v11, v12, .int .i64 el.f4, .bool el.f5, .bool el.f6] from (by rw [hw]; exact st.1)); have n1_ := Aside0.mk (Kd.R_grown HR10.out hg (fun k_ hk e_ => HN10.out k_ hk (by injection e_))); have n2_ := Aside0.mk (Kd.R_grown HR11.out hg (fun k_ hk e_ => HN11.out k_ hk (by injection e_))); have n3_ := Aside0.mk (Kd.R_grown HR12.out hg (fun k_ hk e_ => HN12.out k_ hk (by injection e_))); have n4_ := Aside0.mk (Kept.of_grown hg HK.out (fun k_ e_ => .inl (by injection e_ with e_; subst e_; exact MG.out))); have n5_ := Aside0.mk (show Below w0.heap.size w0 z14 from (by rw [hw]; exact below_set HB.out GB.out)); clear hw hg st hx hf; clear HH HR10 HR11 HR12 HK HB; have HH := n0_; have HR10 := n1_; have HR11 := n2_; have HR12 := n3_; have HK := n4_; have HB := n5_; clear n0_ n1_ n2_ n3_ n4_ n5_; have hx : World.cell? z14 ⟨go, (x5_1 : Int).toNat * 16 + 10, none⟩ = some (v10) := (H_at HH.out C5.out C3.out).1 10 _ rfl)
          | ((with_reducible refine gate_callee (f := 36) rfl ?_); refine goesL_ (some 105) rfl rfl Try.func36 (by kernel_rfl) rfl #[v10, .int .i64 (wrap64 ((wrap64 ((wrap64 ((wrap64 ((wrap64 ((wrap64 ((wrap64 ((wrap64 ((wrap64 ((wrap64 (x1_1 + 1)) + 1)) + 1)) + 1)) + 1)) + 1)) + 1)) + 1)) + 1)) + 1))] rfl (by (try simp only [List.map_toArray, List.map_cons, List.map_nil]); first | done | rfl) ?_; (with_reducible refine (laws_markStringS.calls k1 (fun k_ => some k_ = v10.ownBlock) v10 el.f1.f4 (wrap64 ((wrap64 ((wrap64 ((wrap64 ((wrap64 ((wrap64 ((wrap64 ((wrap64 ((wrap64 ((wrap64 (x1_1 + 1)) + 1)) + 1)) + 1)) + 1)) + 1)) + 1)) + 1)) + 1)) + 1)) b10x b10y w0 _ HB.out HR10.out F_b10.out).mono ?_); rintro e z15 ⟨rfl, hr, hb, hkp⟩; refine ⟨_, rfl, ?_⟩; have n0_ := Aside0.mk (Kd.H_step HH.out (fun k_ _ hn hlt => hkp.2 k_ hlt (fun h_ => hn (HS10.out k_ h_)))); have n1_ := Aside0.mk (Kd.R_tight rfl hr); have n2_ := Aside0.mk (Kd.R_step HR11.out (fun k_ hk hlt => hkp.2 k_ hlt (HA11_10.out k_ hk))); have n3_ := Aside0.mk (Kd.R_step HR12.out (fun k_ hk hlt => hkp.2 k_ hlt (HA12_10.out k_ hk))); have n4_ := Aside0.mk (Kept.then_ HK.out hkp (fun k_ hk => .inl (HP10.out k_ hk))); have n5_ := Aside0.mk (hb); clear hr hb hkp hx; clear HH HR10 HR11 HR12 HK HB; have HH := n0_; have HR10 := n1_; have HR11 := n2_; have HR12 := n3_; have HK := n4_; have HB := n5_; clear n0_ n1_ n2_ n3_ n4_ n5_; have hx : World.cell? z15 ⟨go, (x5_1 : Int).toNat * 16 + 11, none⟩ = some (v11) := (H_at HH.out C5.out C3.out).1 11 _ rfl)
          | ((with_reducible refine gate_callee (f := 74) rfl ?_); refine goesL_ (some 112) rfl rfl Try.func74 (by kernel_rfl) rfl #[v11, .int .i64 b10x] rfl (by (try simp only [List.map_toArray, List.map_cons, List.map_nil]); first | done | rfl) ?_; (with_reducible refine (laws_markStepS.calls k1 (fun k_ => some k_ = v11.ownBlock) v11 el.f2 b10x b11x b11y w0 _ HB.out HR11.out F_b11.out).mono ?_); rintro e z16 ⟨rfl, hr, hb, hkp⟩; refine ⟨_, rfl, ?_⟩; have n0_ := Aside0.mk (Kd.H_step HH.out (fun k_ _ hn hlt => hkp.2 k_ hlt (fun h_ => hn (HS11.out k_ h_)))); have n1_ := Aside0.mk (Kd.R_step HR10.out (fun k_ hk hlt => hkp.2 k_ hlt (HA10_11.out k_ hk))); have n2_ := Aside0.mk (Kd.R_tight rfl hr); have n3_ := Aside0.mk (Kd.R_step HR12.out (fun k_ hk hlt => hkp.2 k_ hlt (HA12_11.out k_ hk))); have n4_ := Aside0.mk (Kept.then_ HK.out hkp (fun k_ hk => .inl (HP11.out k_ hk))); have n5_ := Aside0.mk (hb); clear hr hb hkp hx; clear HH HR10 HR11 HR12 HK HB; have HH := n0_; have HR10 := n1_; have HR11 := n2_; have HR12 := n3_; have HK := n4_; have HB := n5_; clear n0_ n1_ n2_ n3_ n4_ n5_; have hx : World.cell? z16 ⟨go, (x5_1 : Int).toNat * 16 + 12, none⟩ = some (v12) := (H_at HH.out C5.out C3.out).1 12 _ rfl)
          | ((with_reducible refine gate_callee (f := 51) rfl ?_); refine goesL_ (some 119) rfl rfl Try.func51 (by kernel_rfl) rfl #[v12, .int .i64 b11x] rfl (by (try simp only [List.map_toArray, List.map_cons, List.map_nil]); first | done | rfl) ?_; (with_reducible refine (laws_markSealingS.calls k1 (fun k_ => some k_ = v12.ownBlock) v12 el.f3 b11x b12x b12y w0 _ HB.out HR12.out F_b12.out).mono ?_); rintro e z17 ⟨rfl, hr, hb, hkp⟩; refine ⟨_, rfl, ?_⟩; have n0_ := Aside0.mk (Kd.H_step HH.out (fun k_ _ hn hlt => hkp.2 k_ hlt (fun h_ => hn (HS12.out k_ h_)))); have n1_ := Aside0.mk (Kd.R_step HR10.out (fun k_ hk hlt => hkp.2 k_ hlt (HA10_12.out k_ hk))); have n2_ := Aside0.mk (Kd.R_step HR11.out (fun k_ hk hlt => hkp.2 k_ hlt (HA11_12.out k_ hk))); have n3_ := Aside0.mk (Kd.R_tight rfl hr); have n4_ := Aside0.mk (Kept.then_ HK.out hkp (fun k_ hk => .inl (HP12.out k_ hk))); have n5_ := Aside0.mk (hb); clear hr hb hkp hx; clear HH HR10 HR11 HR12 HK HB; have HH := n0_; have HR10 := n1_; have HR11 := n2_; have HR12 := n3_; have HK := n4_; have HB := n5_; clear n0_ n1_ n2_ n3_ n4_ n5_; have hx : World.cell? z17 ⟨go, (x5_1 : Int).toNat * 16 + 13, none⟩ = some (.int .i64 el.f4) := (H_at HH.out C5.out C3.out).1 13 _ rfl; have hf : World.frozen? z17 ⟨go, (x5_1 : Int).toNat * 16 + 13, none⟩ = false := (H_at HH.out C5.out C3.out).2 _)
          | ((with_reducible refine gate_store (t := 3) (p := 124) rfl ?_); refine store_event (t := 3) (p := 124) (v := ?vo_z18) (w1 := (z17.setCell ⟨go, (x5_1 : Int).toNat * 16 + 13, none⟩ (.int .i64 b12x))) ?hg ?ho ?hn ?hr ?_; (case ho => rfl); (case hg => rfl); (case hn => rfl); (case hr => first | (go_simp; done) | (go_simp; rfl)); intro z18 hw; have st := H_put HH.out C5.out C3.out 13 (.int .i64 b12x) (by decide) rfl; have hg : World.grownBy z17 z18 (some go) := (by rw [hw]; exact st.2); have n0_ := Aside0.mk (show Kd.H k93 93 z18 w0.heap.size P0_ (.slice (some ⟨go, 0, none⟩) x0_1.length c0_) x0_1 x5_1 oki [.int .i64 x1_1, .string s1, .string s2, .int .i64 (wrap64 ((wrap64 ((wrap64 (x1_1 + 1)) + 1)) + 1)), .int .i64 (wrap64 ((wrap64 ((wrap64 ((wrap64 (x1_1 + 1)) + 1)) + 1)) + 1)), .string s5, .int .i64 (wrap64 ((wrap64 ((wrap64 ((wrap64 ((wrap64 ((wrap64 (x1_1 + 1)) + 1)) + 1)) + 1)) + 1)) + 1)), .string s7, .int .i64 (wrap64 ((wrap64 ((wrap64 ((wrap64 ((wrap64 ((wrap64 ((wrap64 ((wrap64 (x1_1 + 1)) + 1)) + 1)) + 1)) + 1)) + 1)) + 1)) + 1)), .bool (decide (Int.tmod (wrap64 ((wrap64 ((wrap64 ((wrap64 ((wrap64 ((wrap64 ((wrap64 ((wrap64 ((wrap64 (x1_1 + 1)) + 1)) + 1)) + 1)) + 1)) + 1)) + 1)) + 1)) + 1)) 3 = 0)), v10, v11, v12, .int .i64 b12x, .bool el.f5, .bool el.f6] from (by rw [hw]; exact st.1)); have n1_ := Aside0.mk (Kd.R_grown HR10.out hg (fun k_ hk e_ => HN10.out k_ hk (by injection e_))); have n2_ := Aside0.mk (Kd.R_grown HR11.out hg (fun k_ hk e_ => HN11.out k_ hk (by injection e_))); have n3_ := Aside0.mk (Kd.R_grown HR12.out hg (fun k_ hk e_ => HN12.out k_ hk (by injection e_))); have n4_ := Aside0.mk (Kept.of_grown hg HK.out (fun k_ e_ => .inl (by injection e_ with e_; subst e_; exact MG.out))); have n5_ := Aside0.mk (show Below w0.heap.size w0 z18 from (by rw [hw]; exact below_set HB.out GB.out)); clear hw hg st hx hf; clear HH HR10 HR11 HR12 HK HB; have HH := n0_; have HR10 := n1_; have HR11 := n2_; have HR12 := n3_; have HK := n4_; have HB := n5_; clear n0_ n1_ n2_ n3_ n4_ n5_; have hx : World.cell? z18 ⟨go, (x5_1 : Int).toNat * 16 + 14, none⟩ = some (.bool el.f5) := (H_at HH.out C5.out C3.out).1 14 _ rfl; have hf : World.frozen? z18 ⟨go, (x5_1 : Int).toNat * 16 + 14, none⟩ = false := (H_at HH.out C5.out C3.out).2 _)
          | ((with_reducible refine gate_store (t := 4) (p := 133) rfl ?_); refine store_event (t := 4) (p := 133) (v := ?vo_z19) (w1 := (z18.setCell ⟨go, (x5_1 : Int).toNat * 16 + 14, none⟩ (.bool (decide (Int.tmod (wrap64 (b12x + 1)) 3 = 0))))) ?hg ?ho ?hn ?hr ?_; (case ho => rfl); (case hg => rfl); (case hn => rfl); (case hr => first | (go_simp; done) | (go_simp; rfl)); intro z19 hw; have st := H_put HH.out C5.out C3.out 14 (.bool (decide (Int.tmod (wrap64 (b12x + 1)) 3 = 0))) (by decide) rfl; have hg : World.grownBy z18 z19 (some go) := (by rw [hw]; exact st.2); have n0_ := Aside0.mk (show Kd.H k93 93 z19 w0.heap.size P0_ (.slice (some ⟨go, 0, none⟩) x0_1.length c0_) x0_1 x5_1 oki [.int .i64 x1_1, .string s1, .string s2, .int .i64 (wrap64 ((wrap64 ((wrap64 (x1_1 + 1)) + 1)) + 1)), .int .i64 (wrap64 ((wrap64 ((wrap64 ((wrap64 (x1_1 + 1)) + 1)) + 1)) + 1)), .string s5, .int .i64 (wrap64 ((wrap64 ((wrap64 ((wrap64 ((wrap64 ((wrap64 (x1_1 + 1)) + 1)) + 1)) + 1)) + 1)) + 1)), .string s7, .int .i64 (wrap64 ((wrap64 ((wrap64 ((wrap64 ((wrap64 ((wrap64 ((wrap64 ((wrap64 (x1_1 + 1)) + 1)) + 1)) + 1)) + 1)) + 1)) + 1)) + 1)), .bool (decide (Int.tmod (wrap64 ((wrap64 ((wrap64 ((wrap64 ((wrap64 ((wrap64 ((wrap64 ((wrap64 ((wrap64 (x1_1 + 1)) + 1)) + 1)) + 1)) + 1)) + 1)) + 1)) + 1)) + 1)) 3 = 0)), v10, v11, v12, .int .i64 b12x, .bool (decide (Int.tmod (wrap64 (b12x + 1)) 3 = 0)), .bool el.f6] from (by rw [hw]; exact st.1)); have n1_ := Aside0.mk (Kd.R_grown HR10.out hg (fun k_ hk e_ => HN10.out k_ hk (by injection e_))); have n2_ := Aside0.mk (Kd.R_grown HR11.out hg (fun k_ hk e_ => HN11.out k_ hk (by injection e_))); have n3_ := Aside0.mk (Kd.R_grown HR12.out hg (fun k_ hk e_ => HN12.out k_ hk (by injection e_))); have n4_ := Aside0.mk (Kept.of_grown hg HK.out (fun k_ e_ => .inl (by injection e_ with e_; subst e_; exact MG.out))); have n5_ := Aside0.mk (show Below w0.heap.size w0 z19 from (by rw [hw]; exact below_set HB.out GB.out)); clear hw hg st hx hf; clear HH HR10 HR11 HR12 HK HB; have HH := n0_; have HR10 := n1_; have HR11 := n2_; have HR12 := n3_; have HK := n4_; have HB := n5_; clear n0_ n1_ n2_ n3_ n4_ n5_; have hx : World.cell? z19 ⟨go, (x5_1 : Int).toNat * 16 + 15, none⟩ = some (.bool el.f6) := (H_at HH.out C5.out C3.out).1 15 _ rfl; have hf : World.frozen? z19 ⟨go, (x5_1 : Int).toNat * 16 + 15, none⟩ = false := (H_at HH.out C5.out C3.out).2 _)
          | ((with_reducible refine gate_store (t := 4) (p := 142) rfl ?_); refine store_event (t := 4) (p := 142) (v := ?vo_z20) (w1 := (z19.setCell ⟨go, (x5_1 : Int).toNat * 16 + 15, none⟩ (.bool (decide (Int.tmod (wrap64 ((wrap64 (b12x + 1)) + 1)) 3 = 0))))) ?hg ?ho ?hn ?hr ?_; (case ho => rfl); (case hg => rfl); (case hn => rfl); (case hr => first | (go_simp; done) | (go_simp; rfl)); intro z20 hw; have st := H_put HH.out C5.out C3.out 15 (.bool (decide (Int.tmod (wrap64 ((wrap64 (b12x + 1)) + 1)) 3 = 0))) (by decide) rfl; have hg : World.grownBy z19 z20 (some go) := (by rw [hw]; exact st.2); have n0_ := Aside0.mk (show Kd.H k93 93 z20 w0.heap.size P0_ (.slice (some ⟨go, 0, none⟩) x0_1.length c0_) x0_1 x5_1 oki [.int .i64 x1_1, .string s1, .string s2, .int .i64 (wrap64 ((wrap64 ((wrap64 (x1_1 + 1)) + 1)) + 1)), .int .i64 (wrap64 ((wrap64 ((wrap64 ((wrap64 (x1_1 + 1)) + 1)) + 1)) + 1)), .string s5, .int .i64 (wrap64 ((wrap64 ((wrap64 ((wrap64 ((wrap64 ((wrap64 (x1_1 + 1)) + 1)) + 1)) + 1)) + 1)) + 1)), .string s7, .int .i64 (wrap64 ((wrap64 ((wrap64 ((wrap64 ((wrap64 ((wrap64 ((wrap64 ((wrap64 (x1_1 + 1)) + 1)) + 1)) + 1)) + 1)) + 1)) + 1)) + 1)), .bool (decide (Int.tmod (wrap64 ((wrap64 ((wrap64 ((wrap64 ((wrap64 ((wrap64 ((wrap64 ((wrap64 ((wrap64 (x1_1 + 1)) + 1)) + 1)) + 1)) + 1)) + 1)) + 1)) + 1)) + 1)) 3 = 0)), v10, v11, v12, .int .i64 b12x, .bool (decide (Int.tmod (wrap64 (b12x + 1)) 3 = 0)), .bool (decide (Int.tmod (wrap64 ((wrap64 (b12x + 1)) + 1)) 3 = 0))] from (by rw [hw]; exact st.1)); have n1_ := Aside0.mk (Kd.R_grown HR10.out hg (fun k_ hk e_ => HN10.out k_ hk (by injection e_))); have n2_ := Aside0.mk (Kd.R_grown HR11.out hg (fun k_ hk e_ => HN11.out k_ hk (by injection e_))); have n3_ := Aside0.mk (Kd.R_grown HR12.out hg (fun k_ hk e_ => HN12.out k_ hk (by injection e_))); have n4_ := Aside0.mk (Kept.of_grown hg HK.out (fun k_ e_ => .inl (by injection e_ with e_; subst e_; exact MG.out))); have n5_ := Aside0.mk (show Below w0.heap.size w0 z20 from (by rw [hw]; exact below_set HB.out GB.out)); clear hw hg st hx hf; clear HH HR10 HR11 HR12 HK HB; have HH := n0_; have HR10 := n1_; have HR11 := n2_; have HR12 := n3_; have HK := n4_; have HB := n5_; clear n0_ n1_ n2_ n3_ n4_ n5_))
        go_roundg k1
        case measure => have := HK1.out; omega
        case rel => exact ⟨x0_1.set x5_1.toNat b2, b1, wrap64 (x5_1 + 1), (by rw [← EB1.out]), rfl, H', ⟨by have := HK1.out; omega⟩, ⟨by rw [← EB2.out, HL.out]; exact Kd.H_back HH.out (k93_mkM _ _ _ (⟨⟨x1_1, s1, s2, (wrap64 ((wrap64 ((wrap64 (x1_1 + 1)) + 1)) + 1)), (wrap64 ((wrap64 ((wrap64 ((wrap64 (x1_1 + 1)) + 1)) + 1)) + 1)), s5⟩, ⟨(wrap64 ((wrap64 ((wrap64 ((wrap64 ((wrap64 ((wrap64 (x1_1 + 1)) + 1)) + 1)) + 1)) + 1)) + 1)), s7, (wrap64 ((wrap64 ((wrap64 ((wrap64 ((wrap64 ((wrap64 ((wrap64 ((wrap64 (x1_1 + 1)) + 1)) + 1)) + 1)) + 1)) + 1)) + 1)) + 1)), (decide (Int.tmod (wrap64 ((wrap64 ((wrap64 ((wrap64 ((wrap64 ((wrap64 ((wrap64 ((wrap64 ((wrap64 (x1_1 + 1)) + 1)) + 1)) + 1)) + 1)) + 1)) + 1)) + 1)) + 1)) 3 = 0)), b10y⟩, b11y, b12y, b12x, (decide (Int.tmod (wrap64 (b12x + 1)) 3 = 0)), (decide (Int.tmod (wrap64 ((wrap64 (b12x + 1)) + 1)) 3 = 0))⟩ : S93) (Kd.R_mono HR10.out HS10.out) (Kd.R_mono HR11.out HS11.out) (Kd.R_mono HR12.out HS12.out)) (fun _ hk => hk)⟩, HK, HB⟩
      · rw [if_neg c3] at H
        have c3b0 : decide (x5_1 < (x0_1.length : Int)) = false := decide_eq_false c3
        clear c3
        simp only [Option.some.injEq, Prod.mk.injEq] at H
        obtain ⟨rfl, rfl⟩ := H
        obtain ⟨A1_, c1_, e1_⟩ := Kd.S_slice HO_0.out
        have HL_ : l0.length = x0_1.length := by rw [e0_] at e1_; injection e1_
        rw [← HL_] at c3b0
        subst e0_
        clear e1_ HL_
        go_wp2
        go_ret
        exact ⟨rfl, HO_0.out, HB.out, HK.out⟩


/-! ### laws.markSystem: several rows -/
def laws_markSystem.f (k : Nat) (a0_0 : Int) (a0_1 : Int) (a0_2 : Int) (a0_3 : Int) (a0_4 : ByteArray) (l0_5 : List (S112)) (l0_6 : List (S93)) (l0_7 : List (S131)) (a1 : Int) : Option (Int × (List (S112)) × (List (S93)) × (List (S131))) := (laws_markMemory.f k a0_4 l0_5 a1).bind fun b0 => (laws_markJobS.f k l0_6 b0.1).bind fun b1 => (laws_markSealingS.f k l0_7 b1.1).bind fun b2 => some (b2.1, b0.2, b1.2, b2.2)
theorem laws_markSystem.mono : ∀ a0_0 a0_1 a0_2 a0_3 a0_4 l0_5 l0_6 l0_7 y k, LeO (laws_markSystem.f k a0_0 a0_1 a0_2 a0_3 a0_4 l0_5 l0_6 l0_7 y) (laws_markSystem.f (k + 1) a0_0 a0_1 a0_2 a0_3 a0_4 l0_5 l0_6 l0_7 y) := by
  intro a0_0 a0_1 a0_2 a0_3 a0_4 l0_5 l0_6 l0_7 y k
  unfold laws_markSystem.f
  repeat' first
  | (with_reducible exact laws_markMemory.mono _ _ _ _ )
  | (with_reducible exact laws_markJobS.mono _ _ _ )
  | (with_reducible exact laws_markSealingS.mono _ _ _ )
  | (with_reducible exact LeO.refl _)
  | (with_reducible refine LeO.bind ?_ (fun _ => ?_))
set_option maxHeartbeats 4000000 in
set_option maxRecDepth 100000 in
theorem laws_markSystem.calls (k : Nat) (P5 : Nat → Prop) (v5 : Value) (P6 : Nat → Prop) (v6 : Value) (P7 : Nat → Prop) (v7 : Value) (a0_0 : Int) (a0_1 : Int) (a0_2 : Int) (a0_3 : Int) (a0_4 : ByteArray) (l0_5 : List (S112)) (l0_6 : List (S93)) (l0_7 : List (S131)) (a1 : Int) (r1 : Int) (r2 : List (S112)) (r3 : List (S93)) (r4 : List (S131)) (w0 w : World) (hB : Below w0.heap.size w0 w) (h5 : Kd.R k112 112 w w0.heap.size P5 v5 l0_5) (h6 : Kd.S k93 93 w w0.heap.size P6 v6 l0_6) (h7 : Kd.R k131 131 w w0.heap.size P7 v7 l0_7) (n5_6 : ∀ k_, P5 k_ → ¬ P6 k_) (n5_7 : ∀ k_, P5 k_ → ¬ P7 k_) (n6_7 : ∀ k_, P6 k_ → ¬ P7 k_) (h : laws_markSystem.f k a0_0 a0_1 a0_2 a0_3 a0_4 l0_5 l0_6 l0_7 a1 = some (r1, r2, r3, r4)) :
    Calls Try.prog 21 #[.agg #[.int .i64 a0_0, .int .i64 a0_1, .int .i64 a0_2, .int .i64 a0_3, .string a0_4, v5, v6, v7], .int .i64 a1] w fun e w' => e = .returned (.int .i64 r1) ∧ Kd.R k112 112 w' w0.heap.size P5 v5 r2 ∧ Kd.S k93 93 w' w0.heap.size P6 v6 r3 ∧ Kd.R k131 131 w' w0.heap.size P7 v7 r4 ∧ Below w0.heap.size w0 w' ∧ Kept w w' (fun k_ => P5 k_ ∨ P6 k_ ∨ P7 k_) := by
  unfold laws_markSystem.f at h
  obtain ⟨⟨m0, g5⟩, E0, h⟩ := Option.bind_eq_some_iff.1 h
  have F0 := Aside0.mk E0
  clear E0
  obtain ⟨⟨m1, g6⟩, E1, h⟩ := Option.bind_eq_some_iff.1 h
  have F1 := Aside0.mk E1
  clear E1
  obtain ⟨⟨m2, g7⟩, E2, h⟩ := Option.bind_eq_some_iff.1 h
  have F2 := Aside0.mk E2
  clear E2
  simp only [Option.some.injEq, Prod.mk.injEq] at h
  obtain ⟨rfl, rfl, rfl, rfl⟩ := h
  have hu_Geo := Try.underlying45
  have hu_Memory := Try.underlying48
  have hu_System := Try.underlying52
  have HR5 := Aside0.mk (Kd.R_alloc (show Kd.R k112 112 w w0.heap.size (fun k_ => P5 k_ ∧ k_ < w.heap.size) v5 l0_5 from Kd.R_mono (Kd.R_bound h5) (fun k_ hk => ⟨hk.1, hk.2.2.1⟩)) (.cells #[.int .i64 a0_0, .int .i64 a0_1, .int .i64 a0_2, .int .i64 a0_3, .string a0_4, v5, v6, v7] 52))
  have HR6 := Aside0.mk (Kd.S_alloc (show Kd.S k93 93 w w0.heap.size (fun k_ => P6 k_ ∧ k_ < w.heap.size) v6 l0_6 from Kd.S_mono (Kd.S_bound h6) (fun k_ hk => ⟨hk.1, hk.2.2.1⟩)) (.cells #[.int .i64 a0_0, .int .i64 a0_1, .int .i64 a0_2, .int .i64 a0_3, .string a0_4, v5, v6, v7] 52))
  have HR7 := Aside0.mk (Kd.R_alloc (show Kd.R k131 131 w w0.heap.size (fun k_ => P7 k_ ∧ k_ < w.heap.size) v7 l0_7 from Kd.R_mono (Kd.R_bound h7) (fun k_ hk => ⟨hk.1, hk.2.2.1⟩)) (.cells #[.int .i64 a0_0, .int .i64 a0_1, .int .i64 a0_2, .int .i64 a0_3, .string a0_4, v5, v6, v7] 52))
  have BK := Aside0.mk (blk_new w (.cells #[.int .i64 a0_0, .int .i64 a0_1, .int .i64 a0_2, .int .i64 a0_3, .string a0_4, v5, v6, v7] 52))
  have HK := Aside0.mk (Kept.alloc (Kept.refl w (fun k_ => P5 k_ ∨ P6 k_ ∨ P7 k_)) (.cells #[.int .i64 a0_0, .int .i64 a0_1, .int .i64 a0_2, .int .i64 a0_3, .string a0_4, v5, v6, v7] 52))
  have HB := Aside0.mk (below_alloc hB (.cells #[.int .i64 a0_0, .int .i64 a0_1, .int .i64 a0_2, .int .i64 a0_3, .string a0_4, v5, v6, v7] 52))
  clear hB h5 h6 h7
  have N5_6 := Aside0.mk n5_6
  clear n5_6
  have N5_7 := Aside0.mk n5_7
  clear n5_7
  have N6_7 := Aside0.mk n6_7
  clear n6_7
  go_enter Try.func21, Try.ntmps21
  go_wp2_with fail
  refine (laws_markMemory.calls k a0_4 (fun k_ => P5 k_ ∧ k_ < w.heap.size) v5 l0_5  a1 m0 g5 w0 _ HB.out HR5.out F0.out).mono ?_
  rintro e z0 ⟨rfl, hr5, hb, hkp⟩
  have n0_ := Aside0.mk (Kd.R_reok rfl hr5 HR5.out.1)
  have n1_ := Aside0.mk (Kd.S_step HR6.out (fun k_ hk hlt => hkp.2 k_ hlt (fun hq => (N5_6.out k_ hq.1 hk.1))))
  have n2_ := Aside0.mk (Kd.R_step HR7.out (fun k_ hk hlt => hkp.2 k_ hlt (fun hq => (N5_7.out k_ hq.1 hk.1))))
  have n3_ := Aside0.mk (blk_kept BK.out hkp (fun hq => Nat.lt_irrefl _ hq.2))
  have n4_ := Aside0.mk (Kept.then_ HK.out hkp (fun _ => fun hq => .inl (.inl hq.1)))
  have n5_ := Aside0.mk (hb)
  clear hb hkp hr5 HR5 HR6 HR7 BK HK HB
  have HR5 := n0_
  have HR6 := n1_
  have HR7 := n2_
  have BK := n3_
  have HK := n4_
  have HB := n5_
  clear n0_ n1_ n2_ n3_ n4_ n5_
  have hx6 : z0.cell? ⟨w.heap.size, 6, none⟩ = some (v6) := blk_cell BK.out 6
  go_wp2_with fail
  refine (laws_markJobS.calls k (fun k_ => P6 k_ ∧ k_ < w.heap.size) v6 l0_6 m0 m1 g6 w0 _ HB.out HR6.out F1.out).mono ?_
  rintro e z1 ⟨rfl, hr6, hb, hkp⟩
  have n0_ := Aside0.mk (Kd.R_step HR5.out (fun k_ hk hlt => hkp.2 k_ hlt (fun hq => (N5_6.out k_ hk.1 hq.1))))
  have n1_ := Aside0.mk (hr6)
  have n2_ := Aside0.mk (Kd.R_step HR7.out (fun k_ hk hlt => hkp.2 k_ hlt (fun hq => (N6_7.out k_ hq.1 hk.1))))
  have n3_ := Aside0.mk (blk_kept BK.out hkp (fun hq => Nat.lt_irrefl _ hq.2))
  have n4_ := Aside0.mk (Kept.then_ HK.out hkp (fun _ => fun hq => .inl (.inr (.inl hq.1))))
  have n5_ := Aside0.mk (hb)
  clear hb hkp hr6 HR5 HR6 HR7 BK HK HB hx6
  have HR5 := n0_
  have HR6 := n1_
  have HR7 := n2_
  have BK := n3_
  have HK := n4_
  have HB := n5_
  clear n0_ n1_ n2_ n3_ n4_ n5_
  have hx7 : z1.cell? ⟨w.heap.size, 7, none⟩ = some (v7) := blk_cell BK.out 7
  go_wp2_with fail
  refine (laws_markSealingS.calls k (fun k_ => P7 k_ ∧ k_ < w.heap.size) v7 l0_7 m1 m2 g7 w0 _ HB.out HR7.out F2.out).mono ?_
  rintro e z2 ⟨rfl, hr7, hb, hkp⟩
  have n0_ := Aside0.mk (Kd.R_step HR5.out (fun k_ hk hlt => hkp.2 k_ hlt (fun hq => (N5_7.out k_ hk.1 hq.1))))
  have n1_ := Aside0.mk (Kd.S_step HR6.out (fun k_ hk hlt => hkp.2 k_ hlt (fun hq => (N6_7.out k_ hk.1 hq.1))))
  have n2_ := Aside0.mk (Kd.R_reok rfl hr7 HR7.out.1)
  have n3_ := Aside0.mk (blk_kept BK.out hkp (fun hq => Nat.lt_irrefl _ hq.2))
  have n4_ := Aside0.mk (Kept.then_ HK.out hkp (fun _ => fun hq => .inl (.inr (.inr (hq.1)))))
  have n5_ := Aside0.mk (hb)
  clear hb hkp hr7 HR5 HR6 HR7 BK HK HB hx7
  have HR5 := n0_
  have HR6 := n1_
  have HR7 := n2_
  have BK := n3_
  have HK := n4_
  have HB := n5_
  clear n0_ n1_ n2_ n3_ n4_ n5_
  go_wp2
  go_ret
  exact ⟨rfl, Kd.R_mono HR5.out (fun _ hk => hk.1), Kd.S_mono HR6.out (fun _ hk => hk.1), Kd.R_mono HR7.out (fun _ hk => hk.1), HB.out, HK.out⟩


end Go.Proofs.Ytggfonljcbmjmaa.PFnExactIdleIn
