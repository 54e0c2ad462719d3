import Derived.Test.YtggfonljcbmjmaaPFnExactToldTox5
namespace Go.Proofs.Ytggfonljcbmjmaa.PFnExactToldTo
open Go.RowKit Go.Proofs.YtggfonljcbmjmaaW.PrintWords Go.Proofs.YtggfonljcbmjmaaW.PrintLast Go.Proofs.YtggfonljcbmjmaaW.PrintMore
set_option linter.unusedVariables false
set_option linter.unusedSimpArgs false
set_option linter.unusedSectionVars false

/-! ### rows with rows inside, marked in place: an element is lent, its cells are written, its rows are handed on -/
section
variable {α : Type} {d : Kd α} {e base n cap g : Nat} {W W' : World} {ok oki P Q : Nat → Prop} {xs : List α} {i : Int} {c : List Value} {v v' : Value}
theorem H_block (h : Kd.H d e W base ok (.slice (some ⟨g, 0, none⟩) n cap) xs i oki c) (h0 : 0 ≤ i) (h1 : i < n) : ∃ cells, W.heap[g]? = some (.cells cells e (0, 0)) := by
  obtain ⟨_, f, hR⟩ := h
  have hn := (Kd.R_reads' hR).1
  obtain ⟨g', cap', hv, _, _, cells, hc⟩ := Kd.R_form hR (by omega)
  injection hv with hv
  injection hv with hv
  injection hv with hv
  subst hv
  exact ⟨cells, hc⟩
theorem H_at (h : Kd.H d e W base ok (.slice (some ⟨g, 0, none⟩) n cap) xs i oki c) (h0 : 0 ≤ i) (h1 : i < n) :
    (∀ j u, c[j]? = some u → W.cell? ⟨g, i.toNat * d.sz + j, none⟩ = some u) ∧ ∀ j, W.frozen? ⟨g, j, none⟩ = false := by
  obtain ⟨cells, hc⟩ := H_block h h0 h1
  obtain ⟨_, _, _, _, _, hcc, _⟩ := Kd.H_raw h h0 h1
  exact ⟨hcc, fun j => blk_frozen hc j⟩
theorem H_put (h : Kd.H d e W base ok (.slice (some ⟨g, 0, none⟩) n cap) xs i oki c) (h0 : 0 ≤ i) (h1 : i < n) (j : Nat) (u : Value) (hj : j + 1 ≤ d.sz) (hu : u.oneCell' = true) :
    Kd.H d e (W.setCell ⟨g, i.toNat * d.sz + j, none⟩ u) base ok (.slice (some ⟨g, 0, none⟩) n cap) xs i oki (c.take j ++ [u] ++ c.drop (j + 1)) ∧ W.grownBy (W.setCell ⟨g, i.toNat * d.sz + j, none⟩ u) (some g) :=
  Kd.H_seg h h0 h1 (seg := [u]) (j := j) hj (fun q hq => by rw [List.mem_singleton.1 hq]; exact hu)
theorem own_apart {β : Type} {d' : Kd β} {e' : Nat} {ys : List β} (h : d.R e W base P v xs) (h' : d'.R e' W base Q v' ys) (hne : e ≠ e') : ∀ k, some k = v.ownBlock → ¬ some k = v'.ownBlock := fun k h1 h2 => by
  obtain ⟨c1, e1⟩ := Kd.R_typed h k h1.symm
  obtain ⟨c2, e2⟩ := Kd.R_typed h' k h2.symm
  rw [e1] at e2
  injection e2 with e2
  injection e2 with _ e2 _
  exact hne e2
end

/-! ### for the laws themselves: a whole struct stored into its own block -/
section
theorem setCells_own (g t : Nat) : ∀ (vs pre rest : List Value) (W : World), W.heap[g]? = some (.cells (pre ++ rest).toArray t (0, 0)) → vs.length = rest.length →
    (W.setCells g pre.length vs).heap[g]? = some (.cells (pre ++ vs).toArray t (0, 0)) ∧ (W.setCells g pre.length vs).heap.size = W.heap.size ∧ (∀ k, k ≠ g → (W.setCells g pre.length vs).heap[k]? = W.heap[k]?) ∧ Below g W (W.setCells g pre.length vs)
  | [], pre, rest, W, hb, hl => by
    obtain rfl : rest = [] := List.length_eq_zero_iff.1 hl.symm
    exact ⟨hb, rfl, fun _ _ => rfl, Below.refl _ _⟩
  | v :: vs, pre, [], W, hb, hl => by cases hl
  | v :: vs, pre, c :: rest, W, hb, hl => by
    have h1 : (W.setCell ⟨g, pre.length, none⟩ v).heap[g]? = some (.cells ((pre ++ [v]) ++ rest).toArray t (0, 0)) := by
      rw [blk_set hb pre.length v]
      congr 2
      apply Array.toList_inj.1
      simp
    have h2 := setCells_own g t vs (pre ++ [v]) rest _ h1 (by simpa using hl)
    have e : (pre ++ [v]).length = pre.length + 1 := by simp
    rw [e] at h2
    obtain ⟨a1, a2, a3, a4⟩ := h2
    refine ⟨?_, ?_, ?_, ?_⟩
    · show ((W.setCell ⟨g, pre.length, none⟩ v).setCells g (pre.length + 1) vs).heap[g]? = _
      rw [a1]
      simp
    · show ((W.setCell ⟨g, pre.length, none⟩ v).setCells g (pre.length + 1) vs).heap.size = _
      rw [a2]
      simp [World.setCell]
    · intro k hk
      show ((W.setCell ⟨g, pre.length, none⟩ v).setCells g (pre.length + 1) vs).heap[k]? = _
      rw [a3 k hk]
      exact Below.heap_setCell W ⟨g, pre.length, none⟩ v k hk
    · exact ((Below.refl g W).setCell (Nat.le_refl g) v).trans a4
theorem store_box {P : Program} {ops : Array Oper} {rest : List Oper} {op : Oper} {a : Act} {w : World} {Q : Exit → Act → World → Prop} (hgd : op.guard = none) (ty : TypeId) (x y : Operand) (ho : op.op = .store ty x y)
    (g t : Nat) (cs cells : List Value) (hx : a.eval x = .pointer (some ⟨g, 0, none⟩)) (hy : a.eval y = .agg cells.toArray)
    (hb : w.heap[g]? = some (.cells cs.toArray t (0, 0))) (hs : cells.length = cs.length) (hi : (P.info? ty).map (·.size) = some cells.length) (h1 : ∀ v ∈ cells, v.oneCell' = true)
    (h : ∀ w1, w1.heap[g]? = some (.cells cells.toArray t (0, 0)) → w1.heap.size = w.heap.size → (∀ k, k ≠ g → w1.heap[k]? = w.heap[k]?) → Below g w w1 → wpList P ops Q rest (a.put op.dst undef) w1) : wpList P ops Q (op :: rest) a w := by
  obtain ⟨a1, a2, a3, a4⟩ := setCells_own g t cells [] cs w hb hs
  refine wpList_store_mid hgd ty x y ho g 0 cells.toArray hx hy ?_ (by rw [hi]; simp) (all_oneCell_toArray h1) (h _ a1 a2 a3 a4)
  intro j hj
  have hj2 : j < cs.length := by simp at hj; omega
  refine ⟨?_, blk_frozen hb _⟩
  rw [Nat.zero_add, blk_cell hb j]
  simp [hj2]
variable {α : Type} {d : Kd α} {e base : Nat} {ok : Nat → Prop} {w0 w W W1 : World} {v : Value} {xs : List α} {g : Nat}
theorem R_away' (h : d.R e W base ok v xs) (hk : ∀ k, k ≠ g → W1.heap[k]? = W.heap[k]?) (hg : ∀ k, ok k → k < g) : d.R e W1 base ok v xs := Kd.R_step h (fun k ho _ => hk k (Nat.ne_of_lt (hg k ho)))
theorem S_away' (h : Kd.S d e W base ok v xs) (hk : ∀ k, k ≠ g → W1.heap[k]? = W.heap[k]?) (hg : ∀ k, ok k → k < g) : Kd.S d e W1 base ok v xs := Kd.S_step h (fun k ho _ => hk k (Nat.ne_of_lt (hg k ho)))
theorem below_store (h : Below w0.heap.size w0 W) (hb : Below g W W1) (hg : w0.heap.size ≤ g) : Below w0.heap.size w0 W1 := h.trans (hb.mono hg)
end

/-! ### laws.markToldS -/
def laws_markToldS.el (k : Nat) (e : S79) (a : Int) : Option (Int × S79) := (laws_markText.f k (wrap64 ((wrap64 ((wrap64 ((wrap64 (a + 1)) + 1)) + 1)) + 1))).bind fun s4 => (laws_markStringS.f k e.f3.f4 (wrap64 ((wrap64 ((wrap64 ((wrap64 ((wrap64 ((wrap64 ((wrap64 (a + 1)) + 1)) + 1)) + 1)) + 1)) + 1)) + 1))).bind fun b7 => some (b7.1, (⟨a, wrap64 (a + 1), (decide (Int.tmod (wrap64 ((wrap64 (a + 1)) + 1)) 3 = 0)), ⟨wrap64 ((wrap64 ((wrap64 (a + 1)) + 1)) + 1), s4, wrap64 ((wrap64 ((wrap64 ((wrap64 ((wrap64 (a + 1)) + 1)) + 1)) + 1)) + 1), (decide (Int.tmod (wrap64 ((wrap64 ((wrap64 ((wrap64 ((wrap64 ((wrap64 (a + 1)) + 1)) + 1)) + 1)) + 1)) + 1)) 3 = 0)), b7.2⟩⟩ : S79))
def laws_markToldS.l0 : Nat → List (S79) → Int → Int → Option (Int × List (S79))
  | 0, _, _, _ => none
  | k + 1, x0, x1, x5 => if x5 < (x0.length : Int) then (if 0 ≤ x5 then ((laws_markToldS.el k (rd_T79 x0 x5) x1).bind fun b => laws_markToldS.l0 k (x0.set x5.toNat b.2) b.1 (wrap64 (x5 + 1))) else none) else some (x1, x0)
def laws_markToldS.f (k : Nat) (l0 : List (S79)) (a1 : Int) : Option (Int × List (S79)) := laws_markToldS.l0 k l0 a1 0
theorem laws_markToldS.el_mono (e : S79) (a : Int) (k : Nat) : LeO (laws_markToldS.el k e a) (laws_markToldS.el (k + 1) e a) := by
  unfold laws_markToldS.el
  repeat' first
   | (with_reducible exact laws_markStringS.mono _ _ _ )
   | (with_reducible exact laws_markText.mono _ _ )
   | (with_reducible exact LeO.refl _)
   | (with_reducible refine LeO.bind ?_ (fun _ => ?_))
theorem laws_markToldS.mono_l : ∀ k, (∀ y0 y1 y2, LeO (laws_markToldS.l0 k y0 y1 y2) (laws_markToldS.l0 (k + 1) y0 y1 y2))
  | 0 => fun _ _ _ r h => by simp [laws_markToldS.l0] at h
  | k + 1 => by
    have ih0 := laws_markToldS.mono_l k
    intro y0 y1 y2
    unfold laws_markToldS.l0
    repeat' first
      | (with_reducible exact ih0 _ _ _)
      | (with_reducible exact laws_markToldS.el_mono _ _ _)
      | (with_reducible exact LeO.refl _)
      | (with_reducible exact LeO.none _)
      | (with_reducible refine LeO.ite ?_ ?_)
      | (with_reducible refine LeO.bind ?_ (fun _ => ?_))
theorem laws_markToldS.mono : ∀ a0 a1 k, LeO (laws_markToldS.f k a0 a1) (laws_markToldS.f (k + 1) a0 a1) := fun a0 a1 k => laws_markToldS.mono_l k _ _ _
set_option maxHeartbeats 16000000 in
set_option maxRecDepth 100000 in
theorem laws_markToldS.calls (k : Nat) (P0_ : Nat → Prop) (u9000_ : Value) (l0 : List (S79)) (a1 : Int) (r1 : Int) (r2 : List (S79)) (w0 w : World) (hB : Below w0.heap.size w0 w) (ho0 : Kd.S k79 79 w w0.heap.size P0_ u9000_ l0) (h : laws_markToldS.f k l0 a1 = some (r1, r2)) :
    Calls Try.prog 12 #[u9000_, .int .i64 a1] w fun e w' => e = .returned (.int .i64 r1) ∧ Kd.S k79 79 w' w0.heap.size P0_ u9000_ r2 ∧ Below w0.heap.size w0 w' ∧ Kept w w' P0_ := by
  have HO0 := Aside0.mk ho0
  have HK := Aside0.mk (Kept.refl w P0_)
  have HB := Aside0.mk hB
  clear hB ho0
  have H' := Aside0.mk (show laws_markToldS.l0 k l0 a1 0 = some (r1, r2) from h)
  clear h
  have hu_Told := Try.underlying79
  have hu_Result := Try.underlying77
  obtain ⟨A0_, c0_, e0_⟩ := Kd.S_slice HO0.out
  go_enter Try.func12, Try.ntmps12
  go_wp2
  go_loopg [1, 5] k (fun kq v1 v5 w' => ∃ (x0_1 : List (S79)) (x1_1 : Int) (x5_1 : Int), v1 = .int .i64 x1_1 ∧ v5 = .int .i64 x5_1 ∧ Aside0 (laws_markToldS.l0 kq x0_1 x1_1 x5_1 = some (r1, r2)) ∧ Aside0 (kq ≤ k) ∧ Aside0 (Kd.S k79 79 w' w0.heap.size P0_ u9000_ x0_1) ∧ Aside0 (Kept w w' P0_) ∧ Aside0 (Below w0.heap.size w0 w'))
  case atStart => exact ⟨l0, a1, 0, rfl, rfl, H', ⟨Nat.le_refl _⟩, HO0, HK, HB⟩
  case round =>
    clear H' HO0 HK HB
    obtain ⟨x0_1, x1_1, x5_1, rfl, rfl, HA, HK1, HO_0, HK, HB⟩ := hrel
    cases gk with
    | zero => exact absurd HA.out (by simp [laws_markToldS.l0])
    | succ k1 =>
      have H := HA.out
      clear HA
      simp only [laws_markToldS.l0] at H
      by_cases c3 : x5_1 < (x0_1.length : Int)
      · rw [if_pos c3] at H
        have c3b0 : decide (x5_1 < (x0_1.length : Int)) = true := decide_eq_true c3
        by_cases c5 : 0 ≤ x5_1
        case neg => rw [if_neg c5] at H; cases H
        rw [if_pos c5] at H
        have c5b0 : decide (0 ≤ x5_1) = true := decide_eq_true c5
        obtain ⟨⟨b1, b2⟩, E0, H⟩ := Option.bind_eq_some_iff.1 H
        have H' := Aside0.mk H
        clear H
        unfold laws_markToldS.el at E0
        obtain ⟨s4, E_s4, E0⟩ := Option.bind_eq_some_iff.1 E0
        obtain ⟨⟨b7x, b7y⟩, E_b7, E0⟩ := Option.bind_eq_some_iff.1 E0
        simp only [Option.some.injEq, Prod.mk.injEq] at E0
        obtain ⟨eb1, eb2⟩ := E0
        have F_s4 := Aside0.mk E_s4
        clear E_s4
        have F_b7 := Aside0.mk E_b7
        clear E_b7
        have EB1 := Aside0.mk eb1
        have EB2 := Aside0.mk eb2
        clear eb1 eb2
        have hlen : 0 < x0_1.length := by omega
        obtain ⟨go, co, eo, gb, gl, cl, HG⟩ := Kd.S_form HO_0.out hlen
        clear hlen
        obtain ⟨oki, ce, hcl, hM, hcc, hfr, hoki, hH⟩ := Kd.S_elem (eo ▸ HO_0.out) z79 x5_1 c5 c3
        have MG := Aside0.mk (HO_0.out.choose_spec.1 go (by rw [eo]; rfl))
        obtain rfl : A0_ = some ⟨go, 0, none⟩ := by rw [e0_] at eo; injection eo
        obtain rfl : c0_ = co := by rw [e0_] at eo; injection eo
        have HL := Aside0.mk (show l0.length = x0_1.length from by rw [e0_] at eo; injection eo)
        have c3b1 : decide (x5_1 < (l0.length : Int)) = true := by rw [HL.out]; exact c3b0
        clear c3b0
        obtain ⟨v7, rfl, g7⟩ := k79_openM hM
        obtain ⟨el, hel⟩ : ∃ el : S79, el = rd_T79 x0_1 x5_1 := ⟨_, rfl⟩
        change Kd.H _ _ _ _ _ _ _ _ _ [.int .i64 (rd_T79 x0_1 x5_1).f0, .int .i64 (rd_T79 x0_1 x5_1).f1, .bool (rd_T79 x0_1 x5_1).f2, .int .i64 (rd_T79 x0_1 x5_1).f3.f0, .string (rd_T79 x0_1 x5_1).f3.f1, .int .i64 (rd_T79 x0_1 x5_1).f3.f2, .bool (rd_T79 x0_1 x5_1).f3.f3, v7] at hH
        replace g7 : Kd.R Kd.string 9 _ _ _ v7 (rd_T79 x0_1 x5_1).f3.f4 := g7
        rw [← hel] at hH g7
        rw [← hel] at F_b7
        have HS7 := Aside0.mk (fun (k_ : Nat) (hk : some k_ = v7.ownBlock) => g7.1 k_ hk.symm)
        have HN7 := Aside0.mk (fun (k_ : Nat) (hk : some k_ = v7.ownBlock) => (hoki k_ (g7.1 k_ hk.symm)).2)
        have HP7 := Aside0.mk (fun (k_ : Nat) (hk : some k_ = v7.ownBlock) => (hoki k_ (g7.1 k_ hk.symm)).1)
        have HR7 := Aside0.mk (Kd.R_tight rfl g7)
        have HH := Aside0.mk hH
        have GB := Aside0.mk gb
        have C5 := Aside0.mk c5
        have C3 := Aside0.mk c3
        have HEL := Aside0.mk hel
        clear c3 c5 hH gb gl cl HG hM hcl hcc hfr hoki hel eo HO_0 g7
        subst e0_
        have p5 := eq_true C5.out
        have q5 : (x5_1 < (l0.length : Int)) = True := eq_true (by rw [HL.out]; exact C3.out)
        have hx : World.cell? _ ⟨go, (x5_1 : Int).toNat * 8, none⟩ = some (.int .i64 el.f0) := (H_at HH.out C5.out C3.out).1 0 _ rfl
        have hf : World.frozen? _ ⟨go, (x5_1 : Int).toNat * 8, none⟩ = false := (H_at HH.out C5.out C3.out).2 _
        go_wp2_with (first
          | ((with_reducible refine gate_store (t := 3) (p := 16) rfl ?_); refine store_event (t := 3) (p := 16) (v := ?vo_z1) (w1 := (wr.setCell ⟨go, (x5_1 : Int).toNat * 8, none⟩ (.int .i64 x1_1))) ?hg ?ho ?hn ?hr ?_; (case ho => rfl); (case hg => rfl); (case hn => rfl); (case hr => first | (go_simp; done) | (go_simp; rfl)); intro z1 hw; have st := H_put HH.out C5.out C3.out 0 (.int .i64 x1_1) (by decide) rfl; have hg : World.grownBy wr z1 (some go) := (by rw [hw]; exact st.2); have n0_ := Aside0.mk (show Kd.H k79 79 z1 w0.heap.size P0_ (.slice (some ⟨go, 0, none⟩) x0_1.length c0_) x0_1 x5_1 oki [.int .i64 x1_1, .int .i64 el.f1, .bool el.f2, .int .i64 el.f3.f0, .string el.f3.f1, .int .i64 el.f3.f2, .bool el.f3.f3, v7] from (by rw [hw]; exact st.1)); have n1_ := Aside0.mk (Kd.R_grown HR7.out hg (fun k_ hk e_ => HN7.out k_ hk (by injection e_))); have n2_ := Aside0.mk (Kept.of_grown hg HK.out (fun k_ e_ => .inl (by injection e_ with e_; subst e_; exact MG.out))); have n3_ := Aside0.mk (show Below w0.heap.size w0 z1 from (by rw [hw]; exact below_set HB.out GB.out)); clear hw hg st hx hf; clear HH HR7 HK HB; have HH := n0_; have HR7 := n1_; have HK := n2_; have HB := n3_; clear n0_ n1_ n2_ n3_; have hx : World.cell? z1 ⟨go, (x5_1 : Int).toNat * 8 + 1, none⟩ = some (.int .i64 el.f1) := (H_at HH.out C5.out C3.out).1 1 _ rfl; have hf : World.frozen? z1 ⟨go, (x5_1 : Int).toNat * 8 + 1, none⟩ = false := (H_at HH.out C5.out C3.out).2 _)
          | ((with_reducible refine gate_store (t := 3) (p := 23) rfl ?_); refine store_event (t := 3) (p := 23) (v := ?vo_z2) (w1 := (z1.setCell ⟨go, (x5_1 : Int).toNat * 8 + 1, none⟩ (.int .i64 (wrap64 (x1_1 + 1))))) ?hg ?ho ?hn ?hr ?_; (case ho => rfl); (case hg => rfl); (case hn => rfl); (case hr => first | (go_simp; done) | (go_simp; rfl)); intro z2 hw; have st := H_put HH.out C5.out C3.out 1 (.int .i64 (wrap64 (x1_1 + 1))) (by decide) rfl; have hg : World.grownBy z1 z2 (some go) := (by rw [hw]; exact st.2); have n0_ := Aside0.mk (show Kd.H k79 79 z2 w0.heap.size P0_ (.slice (some ⟨go, 0, none⟩) x0_1.length c0_) x0_1 x5_1 oki [.int .i64 x1_1, .int .i64 (wrap64 (x1_1 + 1)), .bool el.f2, .int .i64 el.f3.f0, .string el.f3.f1, .int .i64 el.f3.f2, .bool el.f3.f3, v7] from (by rw [hw]; exact st.1)); have n1_ := Aside0.mk (Kd.R_grown HR7.out hg (fun k_ hk e_ => HN7.out k_ hk (by injection e_))); have n2_ := Aside0.mk (Kept.of_grown hg HK.out (fun k_ e_ => .inl (by injection e_ with e_; subst e_; exact MG.out))); have n3_ := Aside0.mk (show Below w0.heap.size w0 z2 from (by rw [hw]; exact below_set HB.out GB.out)); clear hw hg st hx hf; clear HH HR7 HK HB; have HH := n0_; have HR7 := n1_; have HK := n2_; have HB := n3_; clear n0_ n1_ n2_ n3_; have hx : World.cell? z2 ⟨go, (x5_1 : Int).toNat * 8 + 2, none⟩ = some (.bool el.f2) := (H_at HH.out C5.out C3.out).1 2 _ rfl; have hf : World.frozen? z2 ⟨go, (x5_1 : Int).toNat * 8 + 2, none⟩ = false := (H_at HH.out C5.out C3.out).2 _)
          | ((with_reducible refine gate_store (t := 4) (p := 32) rfl ?_); refine store_event (t := 4) (p := 32) (v := ?vo_z3) (w1 := (z2.setCell ⟨go, (x5_1 : Int).toNat * 8 + 2, none⟩ (.bool (decide (Int.tmod (wrap64 ((wrap64 (x1_1 + 1)) + 1)) 3 = 0))))) ?hg ?ho ?hn ?hr ?_; (case ho => rfl); (case hg => rfl); (case hn => rfl); (case hr => first | (go_simp; done) | (go_simp; rfl)); intro z3 hw; have st := H_put HH.out C5.out C3.out 2 (.bool (decide (Int.tmod (wrap64 ((wrap64 (x1_1 + 1)) + 1)) 3 = 0))) (by decide) rfl; have hg : World.grownBy z2 z3 (some go) := (by rw [hw]; exact st.2); have n0_ := Aside0.mk (show Kd.H k79 79 z3 w0.heap.size P0_ (.slice (some ⟨go, 0, none⟩) x0_1.length c0_) x0_1 x5_1 oki [.int .i64 x1_1, .int .i64 (wrap64 (x1_1 + 1)), .bool (decide (Int.tmod (wrap64 ((wrap64 (x1_1 + 1)) + 1)) 3 = 0)), .int .i64 el.f3.f0, .string el.f3.f1, .int .i64 el.f3.f2, .bool el.f3.f3, v7] from (by rw [hw]; exact st.1)); have n1_ := Aside0.mk (Kd.R_grown HR7.out hg (fun k_ hk e_ => HN7.out k_ hk (by injection e_))); have n2_ := Aside0.mk (Kept.of_grown hg HK.out (fun k_ e_ => .inl (by injection e_ with e_; subst e_; exact MG.out))); have n3_ := Aside0.mk (show Below w0.heap.size w0 z3 from (by rw [hw]; exact below_set HB.out GB.out)); clear hw hg st hx hf; clear HH HR7 HK HB; have HH := n0_; have HR7 := n1_; have HK := n2_; have HB := n3_; clear n0_ n1_ n2_ n3_; have hx : World.cell? z3 ⟨go, (x5_1 : Int).toNat * 8 + 3, none⟩ = some (.int .i64 el.f3.f0) := (H_at HH.out C5.out C3.out).1 3 _ rfl; have hf : World.frozen? z3 ⟨go, (x5_1 : Int).toNat * 8 + 3, none⟩ = false := (H_at HH.out C5.out C3.out).2 _)
          | ((with_reducible refine gate_store (t := 3) (p := 40) rfl ?_); refine store_event (t := 3) (p := 40) (v := ?vo_z4) (w1 := (z3.setCell ⟨go, (x5_1 : Int).toNat * 8 + 3, none⟩ (.int .i64 (wrap64 ((wrap64 ((wrap64 (x1_1 + 1)) + 1)) + 1))))) ?hg ?ho ?hn ?hr ?_; (case ho => rfl); (case hg => rfl); (case hn => rfl); (case hr => first | (go_simp; done) | (go_simp; rfl)); intro z4 hw; have st := H_put HH.out C5.out C3.out 3 (.int .i64 (wrap64 ((wrap64 ((wrap64 (x1_1 + 1)) + 1)) + 1))) (by decide) rfl; have hg : World.grownBy z3 z4 (some go) := (by rw [hw]; exact st.2); have n0_ := Aside0.mk (show Kd.H k79 79 z4 w0.heap.size P0_ (.slice (some ⟨go, 0, none⟩) x0_1.length c0_) x0_1 x5_1 oki [.int .i64 x1_1, .int .i64 (wrap64 (x1_1 + 1)), .bool (decide (Int.tmod (wrap64 ((wrap64 (x1_1 + 1)) + 1)) 3 = 0)), .int .i64 (wrap64 ((wrap64 ((wrap64 (x1_1 + 1)) + 1)) + 1)), .string el.f3.f1, .int .i64 el.f3.f2, .bool el.f3.f3, v7] from (by rw [hw]; exact st.1)); have n1_ := Aside0.mk (Kd.R_grown HR7.out hg (fun k_ hk e_ => HN7.out k_ hk (by injection e_))); have n2_ := Aside0.mk (Kept.of_grown hg HK.out (fun k_ e_ => .inl (by injection e_ with e_; subst e_; exact MG.out))); have n3_ := Aside0.mk (show Below w0.heap.size w0 z4 from (by rw [hw]; exact below_set HB.out GB.out)); clear hw hg st hx hf; clear HH HR7 HK HB; have HH := n0_; have HR7 := n1_; have HK := n2_; have HB := n3_; clear n0_ n1_ n2_ n3_)
          | ((with_reducible refine gate_callee (f := 35) rfl ?_); refine goesL_ (some 46) rfl rfl Try.func35 (by kernel_rfl) rfl #[.int .i64 (wrap64 ((wrap64 ((wrap64 ((wrap64 (x1_1 + 1)) + 1)) + 1)) + 1))] rfl (by (try simp only [List.map_toArray, List.map_cons, List.map_nil]); first | done | rfl) ?_; (with_reducible refine (laws_markText.calls k1 (wrap64 ((wrap64 ((wrap64 ((wrap64 (x1_1 + 1)) + 1)) + 1)) + 1)) s4 _ F_s4.out).mono ?_); rintro e z5 ⟨rfl, hb⟩; refine ⟨_, rfl, ?_⟩; have n0_ := Aside0.mk (Kd.H_below HH.out hb); have n1_ := Aside0.mk (Kd.R_below HR7.out hb); have n2_ := Aside0.mk (Kept.below HK.out hb); have n3_ := Aside0.mk (below_step HB.out hb); clear hb ; clear HH HR7 HK HB; have HH := n0_; have HR7 := n1_; have HK := n2_; have HB := n3_; clear n0_ n1_ n2_ n3_; have hx : World.cell? z5 ⟨go, (x5_1 : Int).toNat * 8 + 4, none⟩ = some (.string el.f3.f1) := (H_at HH.out C5.out C3.out).1 4 _ rfl; have hf : World.frozen? z5 ⟨go, (x5_1 : Int).toNat * 8 + 4, none⟩ = false := (H_at HH.out C5.out C3.out).2 _)
          | ((with_reducible refine gate_store (t := 9) (p := 49) rfl ?_); refine store_event (t := 9) (p := 49) (v := ?vo_z6) (w1 := (z5.setCell ⟨go, (x5_1 : Int).toNat * 8 + 4, none⟩ (.string s4))) ?hg ?ho ?hn ?hr ?_; (case ho => rfl); (case hg => rfl); (case hn => rfl); (case hr => first | (go_simp; done) | (go_simp; rfl)); intro z6 hw; have st := H_put HH.out C5.out C3.out 4 (.string s4) (by decide) rfl; have hg : World.grownBy z5 z6 (some go) := (by rw [hw]; exact st.2); have n0_ := Aside0.mk (show Kd.H k79 79 z6 w0.heap.size P0_ (.slice (some ⟨go, 0, none⟩) x0_1.length c0_) x0_1 x5_1 oki [.int .i64 x1_1, .int .i64 (wrap64 (x1_1 + 1)), .bool (decide (Int.tmod (wrap64 ((wrap64 (x1_1 + 1)) + 1)) 3 = 0)), .int .i64 (wrap64 ((wrap64 ((wrap64 (x1_1 + 1)) + 1)) + 1)), .string s4, .int .i64 el.f3.f2, .bool el.f3.f3, v7] from (by rw [hw]; exact st.1)); have n1_ := Aside0.mk (Kd.R_grown HR7.out hg (fun k_ hk e_ => HN7.out k_ hk (by injection e_))); have n2_ := Aside0.mk (Kept.of_grown hg HK.out (fun k_ e_ => .inl (by injection e_ with e_; subst e_; exact MG.out))); have n3_ := Aside0.mk (show Below w0.heap.size w0 z6 from (by rw [hw]; exact below_set HB.out GB.out)); clear hw hg st hx hf; clear HH HR7 HK HB; have HH := n0_; have HR7 := n1_; have HK := n2_; have HB := n3_; clear n0_ n1_ n2_ n3_; have hx : World.cell? z6 ⟨go, (x5_1 : Int).toNat * 8 + 5, none⟩ = some (.int .i64 el.f3.f2) := (H_at HH.out C5.out C3.out).1 5 _ rfl; have hf : World.frozen? z6 ⟨go, (x5_1 : Int).toNat * 8 + 5, none⟩ = false := (H_at HH.out C5.out C3.out).2 _)
          | ((with_reducible refine gate_store (t := 3) (p := 57) rfl ?_); refine store_event (t := 3) (p := 57) (v := ?vo_z7) (w1 := (z6.setCell ⟨go, (x5_1 : Int).toNat * 8 + 5, none⟩ (.int .i64 (wrap64 ((wrap64 ((wrap64 ((wrap64 ((wrap64 (x1_1 + 1)) + 1)) + 1)) + 1)) + 1))))) ?hg ?ho ?hn ?hr ?_; (case ho => rfl); (case hg => rfl); (case hn => rfl); (case hr => first | (go_simp; done) | (go_simp; rfl)); intro z7 hw; have st := H_put HH.out C5.out C3.out 5 (.int .i64 (wrap64 ((wrap64 ((wrap64 ((wrap64 ((wrap64 (x1_1 + 1)) + 1)) + 1)) + 1)) + 1))) (by decide) rfl; have hg : World.grownBy z6 z7 (some go) := (by rw [hw]; exact st.2); have n0_ := Aside0.mk (show Kd.H k79 79 z7 w0.heap.size P0_ (.slice (some ⟨go, 0, none⟩) x0_1.length c0_) x0_1 x5_1 oki [.int .i64 x1_1, .int .i64 (wrap64 (x1_1 + 1)), .bool (decide (Int.tmod (wrap64 ((wrap64 (x1_1 + 1)) + 1)) 3 = 0)), .int .i64 (wrap64 ((wrap64 ((wrap64 (x1_1 + 1)) + 1)) + 1)), .string s4, .int .i64 (wrap64 ((wrap64 ((wrap64 ((wrap64 ((wrap64 (x1_1 + 1)) + 1)) + 1)) + 1)) + 1)), .bool el.f3.f3, v7] from (by rw [hw]; exact st.1)); have n1_ := Aside0.mk (Kd.R_grown HR7.out hg (fun k_ hk e_ => HN7.out k_ hk (by injection e_))); have n2_ := Aside0.mk (Kept.of_grown hg HK.out (fun k_ e_ => .inl (by injection e_ with e_; subst e_; exact MG.out))); have n3_ := Aside0.mk (show Below w0.heap.size w0 z7 from (by rw [hw]; exact below_set HB.out GB.out)); clear hw hg st hx hf; clear HH HR7 HK HB; have HH := n0_; have HR7 := n1_; have HK := n2_; have HB := n3_; clear n0_ n1_ n2_ n3_; have hx : World.cell? z7 ⟨go, (x5_1 : Int).toNat * 8 + 6, none⟩ = some (.bool el.f3.f3) := (H_at HH.out C5.out C3.out).1 6 _ rfl; have hf : World.frozen? z7 ⟨go, (x5_1 : Int).toNat * 8 + 6, none⟩ = false := (H_at HH.out C5.out C3.out).2 _)
          | ((with_reducible refine gate_store (t := 4) (p := 67) rfl ?_); refine store_event (t := 4) (p := 67) (v := ?vo_z8) (w1 := (z7.setCell ⟨go, (x5_1 : Int).toNat * 8 + 6, none⟩ (.bool (decide (Int.tmod (wrap64 ((wrap64 ((wrap64 ((wrap64 ((wrap64 ((wrap64 (x1_1 + 1)) + 1)) + 1)) + 1)) + 1)) + 1)) 3 = 0))))) ?hg ?ho ?hn ?hr ?_; (case ho => rfl); (case hg => rfl); (case hn => rfl); (case hr => first | (go_simp; done) | (go_simp; rfl)); intro z8 hw; have st := H_put HH.out C5.out C3.out 6 (.bool (decide (Int.tmod (wrap64 ((wrap64 ((wrap64 ((wrap64 ((wrap64 ((wrap64 (x1_1 + 1)) + 1)) + 1)) + 1)) + 1)) + 1)) 3 = 0))) (by decide) rfl; have hg : World.grownBy z7 z8 (some go) := (by rw [hw]; exact st.2); have n0_ := Aside0.mk (show Kd.H k79 79 z8 w0.heap.size P0_ (.slice (some ⟨go, 0, none⟩) x0_1.length c0_) x0_1 x5_1 oki [.int .i64 x1_1, .int .i64 (wrap64 (x1_1 + 1)), .bool (decide (Int.tmod (wrap64 ((wrap64 (x1_1 + 1)) + 1)) 3 = 0)), .int .i64 (wrap64 ((wrap64 ((wrap64 (x1_1 + 1)) + 1)) + 1)), .string s4, .int .i64 (wrap64 ((wrap64 ((wrap64 ((wrap64 ((wrap64 (x1_1 + 1)) + 1)) + 1)) + 1)) + 1)), .bool (decide (Int.tmod (wrap64 ((wrap64 ((wrap64 ((wrap64 ((wrap64 ((wrap64 (x1_1 + 1)) + 1)) + 1)) + 1)) + 1)) + 1)) 3 = 0)), v7] from (by rw [hw]; exact st.1)); have n1_ := Aside0.mk (Kd.R_grown HR7.out hg (fun k_ hk e_ => HN7.out k_ hk (by injection e_))); have n2_ := Aside0.mk (Kept.of_grown hg HK.out (fun k_ e_ => .inl (by injection e_ with e_; subst e_; exact MG.out))); have n3_ := Aside0.mk (show Below w0.heap.size w0 z8 from (by rw [hw]; exact below_set HB.out GB.out)); clear hw hg st hx hf; clear HH HR7 HK HB; have HH := n0_; have HR7 := n1_; have HK := n2_; have HB := n3_; clear n0_ n1_ n2_ n3_; have hx : World.cell? z8 ⟨go, (x5_1 : Int).toNat * 8 + 7, none⟩ = some (v7) := (H_at HH.out C5.out C3.out).1 7 _ rfl)
          | ((with_reducible refine gate_callee (f := 36) rfl ?_); refine goesL_ (some 77) rfl rfl Try.func36 (by kernel_rfl) rfl #[v7, .int .i64 (wrap64 ((wrap64 ((wrap64 ((wrap64 ((wrap64 ((wrap64 ((wrap64 (x1_1 + 1)) + 1)) + 1)) + 1)) + 1)) + 1)) + 1))] rfl (by (try simp only [List.map_toArray, List.map_cons, List.map_nil]); first | done | rfl) ?_; (with_reducible refine (laws_markStringS.calls k1 (fun k_ => some k_ = v7.ownBlock) v7 el.f3.f4 (wrap64 ((wrap64 ((wrap64 ((wrap64 ((wrap64 ((wrap64 ((wrap64 (x1_1 + 1)) + 1)) + 1)) + 1)) + 1)) + 1)) + 1)) b7x b7y w0 _ HB.out HR7.out F_b7.out).mono ?_); rintro e z9 ⟨rfl, hr, hb, hkp⟩; refine ⟨_, rfl, ?_⟩; have n0_ := Aside0.mk (Kd.H_step HH.out (fun k_ _ hn hlt => hkp.2 k_ hlt (fun h_ => hn (HS7.out k_ h_)))); have n1_ := Aside0.mk (Kd.R_tight rfl hr); have n2_ := Aside0.mk (Kept.then_ HK.out hkp (fun k_ hk => .inl (HP7.out k_ hk))); have n3_ := Aside0.mk (hb); clear hr hb hkp hx; clear HH HR7 HK HB; have HH := n0_; have HR7 := n1_; have HK := n2_; have HB := n3_; clear n0_ n1_ n2_ n3_))
        go_roundg k1
        case measure => have := HK1.out; omega
        case rel => exact ⟨x0_1.set x5_1.toNat b2, b1, wrap64 (x5_1 + 1), (by rw [← EB1.out]), rfl, H', ⟨by have := HK1.out; omega⟩, ⟨by rw [← EB2.out, HL.out]; exact Kd.H_back HH.out (k79_mkM _ _ _ (⟨x1_1, (wrap64 (x1_1 + 1)), (decide (Int.tmod (wrap64 ((wrap64 (x1_1 + 1)) + 1)) 3 = 0)), ⟨(wrap64 ((wrap64 ((wrap64 (x1_1 + 1)) + 1)) + 1)), s4, (wrap64 ((wrap64 ((wrap64 ((wrap64 ((wrap64 (x1_1 + 1)) + 1)) + 1)) + 1)) + 1)), (decide (Int.tmod (wrap64 ((wrap64 ((wrap64 ((wrap64 ((wrap64 ((wrap64 (x1_1 + 1)) + 1)) + 1)) + 1)) + 1)) + 1)) 3 = 0)), b7y⟩⟩ : S79) (Kd.R_mono HR7.out HS7.out)) (fun _ hk => hk)⟩, HK, HB⟩
      · rw [if_neg c3] at H
        have c3b0 : decide (x5_1 < (x0_1.length : Int)) = false := decide_eq_false c3
        clear c3
        simp only [Option.some.injEq, Prod.mk.injEq] at H
        obtain ⟨rfl, rfl⟩ := H
        obtain ⟨A1_, c1_, e1_⟩ := Kd.S_slice HO_0.out
        have HL_ : l0.length = x0_1.length := by rw [e0_] at e1_; injection e1_
        rw [← HL_] at c3b0
        subst e0_
        clear e1_ HL_
        go_wp2
        go_ret
        exact ⟨rfl, HO_0.out, HB.out, HK.out⟩

/-! ### laws.markResultS -/
def laws_markResultS.el (k : Nat) (e : S77) (a : Int) : Option (Int × S77) := (laws_markText.f k (wrap64 (a + 1))).bind fun s1 => (laws_markStringS.f k e.f4 (wrap64 ((wrap64 ((wrap64 ((wrap64 (a + 1)) + 1)) + 1)) + 1))).bind fun b4 => some (b4.1, (⟨a, s1, wrap64 ((wrap64 (a + 1)) + 1), (decide (Int.tmod (wrap64 ((wrap64 ((wrap64 (a + 1)) + 1)) + 1)) 3 = 0)), b4.2⟩ : S77))
def laws_markResultS.l0 : Nat → List (S77) → Int → Int → Option (Int × List (S77))
  | 0, _, _, _ => none
  | k + 1, x0, x1, x5 => if x5 < (x0.length : Int) then (if 0 ≤ x5 then ((laws_markResultS.el k (rd_T77 x0 x5) x1).bind fun b => laws_markResultS.l0 k (x0.set x5.toNat b.2) b.1 (wrap64 (x5 + 1))) else none) else some (x1, x0)
def laws_markResultS.f (k : Nat) (l0 : List (S77)) (a1 : Int) : Option (Int × List (S77)) := laws_markResultS.l0 k l0 a1 0
theorem laws_markResultS.el_mono (e : S77) (a : Int) (k : Nat) : LeO (laws_markResultS.el k e a) (laws_markResultS.el (k + 1) e a) := by
  unfold laws_markResultS.el
  repeat' first
   | (with_reducible exact laws_markStringS.mono _ _ _ )
   | (with_reducible exact laws_markText.mono _ _ )
   | (with_reducible exact LeO.refl _)
   | (with_reducible refine LeO.bind ?_ (fun _ => ?_))
theorem laws_markResultS.mono_l : ∀ k, (∀ y0 y1 y2, LeO (laws_markResultS.l0 k y0 y1 y2) (laws_markResultS.l0 (k + 1) y0 y1 y2))
  | 0 => fun _ _ _ r h => by simp [laws_markResultS.l0] at h
  | k + 1 => by
    have ih0 := laws_markResultS.mono_l k
    intro y0 y1 y2
    unfold laws_markResultS.l0
    repeat' first
      | (with_reducible exact ih0 _ _ _)
      | (with_reducible exact laws_markResultS.el_mono _ _ _)
      | (with_reducible exact LeO.refl _)
      | (with_reducible exact LeO.none _)
      | (with_reducible refine LeO.ite ?_ ?_)
      | (with_reducible refine LeO.bind ?_ (fun _ => ?_))
theorem laws_markResultS.mono : ∀ a0 a1 k, LeO (laws_markResultS.f k a0 a1) (laws_markResultS.f (k + 1) a0 a1) := fun a0 a1 k => laws_markResultS.mono_l k _ _ _
set_option maxHeartbeats 16000000 in
set_option maxRecDepth 100000 in
theorem laws_markResultS.calls (k : Nat) (P0_ : Nat → Prop) (u9000_ : Value) (l0 : List (S77)) (a1 : Int) (r1 : Int) (r2 : List (S77)) (w0 w : World) (hB : Below w0.heap.size w0 w) (ho0 : Kd.S k77 77 w w0.heap.size P0_ u9000_ l0) (h : laws_markResultS.f k l0 a1 = some (r1, r2)) :
    Calls Try.prog 13 #[u9000_, .int .i64 a1] w fun e w' => e = .returned (.int .i64 r1) ∧ Kd.S k77 77 w' w0.heap.size P0_ u9000_ r2 ∧ Below w0.heap.size w0 w' ∧ Kept w w' P0_ := by
  have HO0 := Aside0.mk ho0
  have HK := Aside0.mk (Kept.refl w P0_)
  have HB := Aside0.mk hB
  clear hB ho0
  have H' := Aside0.mk (show laws_markResultS.l0 k l0 a1 0 = some (r1, r2) from h)
  clear h
  have hu_Result := Try.underlying77
  obtain ⟨A0_, c0_, e0_⟩ := Kd.S_slice HO0.out
  go_enter Try.func13, Try.ntmps13
  go_wp2
  go_loopg [1, 5] k (fun kq v1 v5 w' => ∃ (x0_1 : List (S77)) (x1_1 : Int) (x5_1 : Int), v1 = .int .i64 x1_1 ∧ v5 = .int .i64 x5_1 ∧ Aside0 (laws_markResultS.l0 kq x0_1 x1_1 x5_1 = some (r1, r2)) ∧ Aside0 (kq ≤ k) ∧ Aside0 (Kd.S k77 77 w' w0.heap.size P0_ u9000_ x0_1) ∧ Aside0 (Kept w w' P0_) ∧ Aside0 (Below w0.heap.size w0 w'))
  case atStart => exact ⟨l0, a1, 0, rfl, rfl, H', ⟨Nat.le_refl _⟩, HO0, HK, HB⟩
  case round =>
    clear H' HO0 HK HB
    obtain ⟨x0_1, x1_1, x5_1, rfl, rfl, HA, HK1, HO_0, HK, HB⟩ := hrel
    cases gk with
    | zero => exact absurd HA.out (by simp [laws_markResultS.l0])
    | succ k1 =>
      have H := HA.out
      clear HA
      simp only [laws_markResultS.l0] at H
      by_cases c3 : x5_1 < (x0_1.length : Int)
      · rw [if_pos c3] at H
        have c3b0 : decide (x5_1 < (x0_1.length : Int)) = true := decide_eq_true c3
        by_cases c5 : 0 ≤ x5_1
        case neg => rw [if_neg c5] at H; cases H
        rw [if_pos c5] at H
        have c5b0 : decide (0 ≤ x5_1) = true := decide_eq_true c5
        obtain ⟨⟨b1, b2⟩, E0, H⟩ := Option.bind_eq_some_iff.1 H
        have H' := Aside0.mk H
        clear H
        unfold laws_markResultS.el at E0
        obtain ⟨s1, E_s1, E0⟩ := Option.bind_eq_some_iff.1 E0
        obtain ⟨⟨b4x, b4y⟩, E_b4, E0⟩ := Option.bind_eq_some_iff.1 E0
        simp only [Option.some.injEq, Prod.mk.injEq] at E0
        obtain ⟨eb1, eb2⟩ := E0
        have F_s1 := Aside0.mk E_s1
        clear E_s1
        have F_b4 := Aside0.mk E_b4
        clear E_b4
        have EB1 := Aside0.mk eb1
        have EB2 := Aside0.mk eb2
        clear eb1 eb2
        have hlen : 0 < x0_1.length := by omega
        obtain ⟨go, co, eo, gb, gl, cl, HG⟩ := Kd.S_form HO_0.out hlen
        clear hlen
        obtain ⟨oki, ce, hcl, hM, hcc, hfr, hoki, hH⟩ := Kd.S_elem (eo ▸ HO_0.out) z77 x5_1 c5 c3
        have MG := Aside0.mk (HO_0.out.choose_spec.1 go (by rw [eo]; rfl))
        obtain rfl : A0_ = some ⟨go, 0, none⟩ := by rw [e0_] at eo; injection eo
        obtain rfl : c0_ = co := by rw [e0_] at eo; injection eo
        have HL := Aside0.mk (show l0.length = x0_1.length from by rw [e0_] at eo; injection eo)
        have c3b1 : decide (x5_1 < (l0.length : Int)) = true := by rw [HL.out]; exact c3b0
        clear c3b0
        obtain ⟨v4, rfl, g4⟩ := k77_openM hM
        obtain ⟨el, hel⟩ : ∃ el : S77, el = rd_T77 x0_1 x5_1 := ⟨_, rfl⟩
        change Kd.H _ _ _ _ _ _ _ _ _ [.int .i64 (rd_T77 x0_1 x5_1).f0, .string (rd_T77 x0_1 x5_1).f1, .int .i64 (rd_T77 x0_1 x5_1).f2, .bool (rd_T77 x0_1 x5_1).f3, v4] at hH
        replace g4 : Kd.R Kd.string 9 _ _ _ v4 (rd_T77 x0_1 x5_1).f4 := g4
        rw [← hel] at hH g4
        rw [← hel] at F_b4
        have HS4 := Aside0.mk (fun (k_ : Nat) (hk : some k_ = v4.ownBlock) => g4.1 k_ hk.symm)
        have HN4 := Aside0.mk (fun (k_ : Nat) (hk : some k_ = v4.ownBlock) => (hoki k_ (g4.1 k_ hk.symm)).2)
        have HP4 := Aside0.mk (fun (k_ : Nat) (hk : some k_ = v4.ownBlock) => (hoki k_ (g4.1 k_ hk.symm)).1)
        have HR4 := Aside0.mk (Kd.R_tight rfl g4)
        have HH := Aside0.mk hH
        have GB := Aside0.mk gb
        have C5 := Aside0.mk c5
        have C3 := Aside0.mk c3
        have HEL := Aside0.mk hel
        clear c3 c5 hH gb gl cl HG hM hcl hcc hfr hoki hel eo HO_0 g4
        subst e0_
        have p5 := eq_true C5.out
        have q5 : (x5_1 < (l0.length : Int)) = True := eq_true (by rw [HL.out]; exact C3.out)
        have hx : World.cell? _ ⟨go, (x5_1 : Int).toNat * 5, none⟩ = some (.int .i64 el.f0) := (H_at HH.out C5.out C3.out).1 0 _ rfl
        have hf : World.frozen? _ ⟨go, (x5_1 : Int).toNat * 5, none⟩ = false := (H_at HH.out C5.out C3.out).2 _
        go_wp2_with (first
          | ((with_reducible refine gate_store (t := 3) (p := 16) rfl ?_); refine store_event (t := 3) (p := 16) (v := ?vo_z1) (w1 := (wr.setCell ⟨go, (x5_1 : Int).toNat * 5, none⟩ (.int .i64 x1_1))) ?hg ?ho ?hn ?hr ?_; (case ho => rfl); (case hg => rfl); (case hn => rfl); (case hr => first | (go_simp; done) | (go_simp; rfl)); intro z1 hw; have st := H_put HH.out C5.out C3.out 0 (.int .i64 x1_1) (by decide) rfl; have hg : World.grownBy wr z1 (some go) := (by rw [hw]; exact st.2); have n0_ := Aside0.mk (show Kd.H k77 77 z1 w0.heap.size P0_ (.slice (some ⟨go, 0, none⟩) x0_1.length c0_) x0_1 x5_1 oki [.int .i64 x1_1, .string el.f1, .int .i64 el.f2, .bool el.f3, v4] from (by rw [hw]; exact st.1)); have n1_ := Aside0.mk (Kd.R_grown HR4.out hg (fun k_ hk e_ => HN4.out k_ hk (by injection e_))); have n2_ := Aside0.mk (Kept.of_grown hg HK.out (fun k_ e_ => .inl (by injection e_ with e_; subst e_; exact MG.out))); have n3_ := Aside0.mk (show Below w0.heap.size w0 z1 from (by rw [hw]; exact below_set HB.out GB.out)); clear hw hg st hx hf; clear HH HR4 HK HB; have HH := n0_; have HR4 := n1_; have HK := n2_; have HB := n3_; clear n0_ n1_ n2_ n3_)
          | ((with_reducible refine gate_callee (f := 35) rfl ?_); refine goesL_ (some 22) rfl rfl Try.func35 (by kernel_rfl) rfl #[.int .i64 (wrap64 (x1_1 + 1))] rfl (by (try simp only [List.map_toArray, List.map_cons, List.map_nil]); first | done | rfl) ?_; (with_reducible refine (laws_markText.calls k1 (wrap64 (x1_1 + 1)) s1 _ F_s1.out).mono ?_); rintro e z2 ⟨rfl, hb⟩; refine ⟨_, rfl, ?_⟩; have n0_ := Aside0.mk (Kd.H_below HH.out hb); have n1_ := Aside0.mk (Kd.R_below HR4.out hb); have n2_ := Aside0.mk (Kept.below HK.out hb); have n3_ := Aside0.mk (below_step HB.out hb); clear hb ; clear HH HR4 HK HB; have HH := n0_; have HR4 := n1_; have HK := n2_; have HB := n3_; clear n0_ n1_ n2_ n3_; have hx : World.cell? z2 ⟨go, (x5_1 : Int).toNat * 5 + 1, none⟩ = some (.string el.f1) := (H_at HH.out C5.out C3.out).1 1 _ rfl; have hf : World.frozen? z2 ⟨go, (x5_1 : Int).toNat * 5 + 1, none⟩ = false := (H_at HH.out C5.out C3.out).2 _)
          | ((with_reducible refine gate_store (t := 9) (p := 24) rfl ?_); refine store_event (t := 9) (p := 24) (v := ?vo_z3) (w1 := (z2.setCell ⟨go, (x5_1 : Int).toNat * 5 + 1, none⟩ (.string s1))) ?hg ?ho ?hn ?hr ?_; (case ho => rfl); (case hg => rfl); (case hn => rfl); (case hr => first | (go_simp; done) | (go_simp; rfl)); intro z3 hw; have st := H_put HH.out C5.out C3.out 1 (.string s1) (by decide) rfl; have hg : World.grownBy z2 z3 (some go) := (by rw [hw]; exact st.2); have n0_ := Aside0.mk (show Kd.H k77 77 z3 w0.heap.size P0_ (.slice (some ⟨go, 0, none⟩) x0_1.length c0_) x0_1 x5_1 oki [.int .i64 x1_1, .string s1, .int .i64 el.f2, .bool el.f3, v4] from (by rw [hw]; exact st.1)); have n1_ := Aside0.mk (Kd.R_grown HR4.out hg (fun k_ hk e_ => HN4.out k_ hk (by injection e_))); have n2_ := Aside0.mk (Kept.of_grown hg HK.out (fun k_ e_ => .inl (by injection e_ with e_; subst e_; exact MG.out))); have n3_ := Aside0.mk (show Below w0.heap.size w0 z3 from (by rw [hw]; exact below_set HB.out GB.out)); clear hw hg st hx hf; clear HH HR4 HK HB; have HH := n0_; have HR4 := n1_; have HK := n2_; have HB := n3_; clear n0_ n1_ n2_ n3_; have hx : World.cell? z3 ⟨go, (x5_1 : Int).toNat * 5 + 2, none⟩ = some (.int .i64 el.f2) := (H_at HH.out C5.out C3.out).1 2 _ rfl; have hf : World.frozen? z3 ⟨go, (x5_1 : Int).toNat * 5 + 2, none⟩ = false := (H_at HH.out C5.out C3.out).2 _)
          | ((with_reducible refine gate_store (t := 3) (p := 31) rfl ?_); refine store_event (t := 3) (p := 31) (v := ?vo_z4) (w1 := (z3.setCell ⟨go, (x5_1 : Int).toNat * 5 + 2, none⟩ (.int .i64 (wrap64 ((wrap64 (x1_1 + 1)) + 1))))) ?hg ?ho ?hn ?hr ?_; (case ho => rfl); (case hg => rfl); (case hn => rfl); (case hr => first | (go_simp; done) | (go_simp; rfl)); intro z4 hw; have st := H_put HH.out C5.out C3.out 2 (.int .i64 (wrap64 ((wrap64 (x1_1 + 1)) + 1))) (by decide) rfl; have hg : World.grownBy z3 z4 (some go) := (by rw [hw]; exact st.2); have n0_ := Aside0.mk (show Kd.H k77 77 z4 w0.heap.size P0_ (.slice (some ⟨go, 0, none⟩) x0_1.length c0_) x0_1 x5_1 oki [.int .i64 x1_1, .string s1, .int .i64 (wrap64 ((wrap64 (x1_1 + 1)) + 1)), .bool el.f3, v4] from (by rw [hw]; exact st.1)); have n1_ := Aside0.mk (Kd.R_grown HR4.out hg (fun k_ hk e_ => HN4.out k_ hk (by injection e_))); have n2_ := Aside0.mk (Kept.of_grown hg HK.out (fun k_ e_ => .inl (by injection e_ with e_; subst e_; exact MG.out))); have n3_ := Aside0.mk (show Below w0.heap.size w0 z4 from (by rw [hw]; exact below_set HB.out GB.out)); clear hw hg st hx hf; clear HH HR4 HK HB; have HH := n0_; have HR4 := n1_; have HK := n2_; have HB := n3_; clear n0_ n1_ n2_ n3_; have hx : World.cell? z4 ⟨go, (x5_1 : Int).toNat * 5 + 3, none⟩ = some (.bool el.f3) := (H_at HH.out C5.out C3.out).1 3 _ rfl; have hf : World.frozen? z4 ⟨go, (x5_1 : Int).toNat * 5 + 3, none⟩ = false := (H_at HH.out C5.out C3.out).2 _)
          | ((with_reducible refine gate_store (t := 4) (p := 40) rfl ?_); refine store_event (t := 4) (p := 40) (v := ?vo_z5) (w1 := (z4.setCell ⟨go, (x5_1 : Int).toNat * 5 + 3, none⟩ (.bool (decide (Int.tmod (wrap64 ((wrap64 ((wrap64 (x1_1 + 1)) + 1)) + 1)) 3 = 0))))) ?hg ?ho ?hn ?hr ?_; (case ho => rfl); (case hg => rfl); (case hn => rfl); (case hr => first | (go_simp; done) | (go_simp; rfl)); intro z5 hw; have st := H_put HH.out C5.out C3.out 3 (.bool (decide (Int.tmod (wrap64 ((wrap64 ((wrap64 (x1_1 + 1)) + 1)) + 1)) 3 = 0))) (by decide) rfl; have hg : World.grownBy z4 z5 (some go) := (by rw [hw]; exact st.2); have n0_ := Aside0.mk (show Kd.H k77 77 z5 w0.heap.size P0_ (.slice (some ⟨go, 0, none⟩) x0_1.length c0_) x0_1 x5_1 oki [.int .i64 x1_1, .string s1, .int .i64 (wrap64 ((wrap64 (x1_1 + 1)) + 1)), .bool (decide (Int.tmod (wrap64 ((wrap64 ((wrap64 (x1_1 + 1)) + 1)) + 1)) 3 = 0)), v4] from (by rw [hw]; exact st.1)); have n1_ := Aside0.mk (Kd.R_grown HR4.out hg (fun k_ hk e_ => HN4.out k_ hk (by injection e_))); have n2_ := Aside0.mk (Kept.of_grown hg HK.out (fun k_ e_ => .inl (by injection e_ with e_; subst e_; exact MG.out))); have n3_ := Aside0.mk (show Below w0.heap.size w0 z5 from (by rw [hw]; exact below_set HB.out GB.out)); clear hw hg st hx hf; clear HH HR4 HK HB; have HH := n0_; have HR4 := n1_; have HK := n2_; have HB := n3_; clear n0_ n1_ n2_ n3_; have hx : World.cell? z5 ⟨go, (x5_1 : Int).toNat * 5 + 4, none⟩ = some (v4) := (H_at HH.out C5.out C3.out).1 4 _ rfl)
          | ((with_reducible refine gate_callee (f := 36) rfl ?_); refine goesL_ (some 49) rfl rfl Try.func36 (by kernel_rfl) rfl #[v4, .int .i64 (wrap64 ((wrap64 ((wrap64 ((wrap64 (x1_1 + 1)) + 1)) + 1)) + 1))] rfl (by (try simp only [List.map_toArray, List.map_cons, List.map_nil]); first | done | rfl) ?_; (with_reducible refine (laws_markStringS.calls k1 (fun k_ => some k_ = v4.ownBlock) v4 el.f4 (wrap64 ((wrap64 ((wrap64 ((wrap64 (x1_1 + 1)) + 1)) + 1)) + 1)) b4x b4y w0 _ HB.out HR4.out F_b4.out).mono ?_); rintro e z6 ⟨rfl, hr, hb, hkp⟩; refine ⟨_, rfl, ?_⟩; have n0_ := Aside0.mk (Kd.H_step HH.out (fun k_ _ hn hlt => hkp.2 k_ hlt (fun h_ => hn (HS4.out k_ h_)))); have n1_ := Aside0.mk (Kd.R_tight rfl hr); have n2_ := Aside0.mk (Kept.then_ HK.out hkp (fun k_ hk => .inl (HP4.out k_ hk))); have n3_ := Aside0.mk (hb); clear hr hb hkp hx; clear HH HR4 HK HB; have HH := n0_; have HR4 := n1_; have HK := n2_; have HB := n3_; clear n0_ n1_ n2_ n3_))
        go_roundg k1
        case measure => have := HK1.out; omega
        case rel => exact ⟨x0_1.set x5_1.toNat b2, b1, wrap64 (x5_1 + 1), (by rw [← EB1.out]), rfl, H', ⟨by have := HK1.out; omega⟩, ⟨by rw [← EB2.out, HL.out]; exact Kd.H_back HH.out (k77_mkM _ _ _ (⟨x1_1, s1, (wrap64 ((wrap64 (x1_1 + 1)) + 1)), (decide (Int.tmod (wrap64 ((wrap64 ((wrap64 (x1_1 + 1)) + 1)) + 1)) 3 = 0)), b4y⟩ : S77) (Kd.R_mono HR4.out HS4.out)) (fun _ hk => hk)⟩, HK, HB⟩
      · rw [if_neg c3] at H
        have c3b0 : decide (x5_1 < (x0_1.length : Int)) = false := decide_eq_false c3
        clear c3
        simp only [Option.some.injEq, Prod.mk.injEq] at H
        obtain ⟨rfl, rfl⟩ := H
        obtain ⟨A1_, c1_, e1_⟩ := Kd.S_slice HO_0.out
        have HL_ : l0.length = x0_1.length := by rw [e0_] at e1_; injection e1_
        rw [← HL_] at c3b0
        subst e0_
        clear e1_ HL_
        go_wp2
        go_ret
        exact ⟨rfl, HO_0.out, HB.out, HK.out⟩


end Go.Proofs.Ytggfonljcbmjmaa.PFnExactToldTo
