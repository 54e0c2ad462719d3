import Derived.Test.YtggfonljcbmjmaaDoorPFnExactReadGeox4
import Derived.Test.YtggfonljcbmjmaaDoorPFnExactReadGeox3
namespace Go.Proofs.YtggfonljcbmjmaaDoor.PFnExactReadGeo
open Go.RowKit Go.Proofs.YtggfonljcbmjmaaDoorW.PrintWords Go.Proofs.YtggfonljcbmjmaaDoorW.PrintLast Go.Proofs.YtggfonljcbmjmaaDoorW.PrintMore
set_option linter.unusedVariables false
set_option linter.unusedSimpArgs false
set_option linter.unusedSectionVars false

/-! ### impl.ReadGeo -/
def impl_ReadGeo.g (k : Nat) (l : List ByteArray) : Option (Int × Int × Int × Int × Bool) :=
  match l with
  | [s0, s1, s2, s3, s4] => (impl_ReadDecimal.f s0).bind fun _ => (impl_ReadDecimal.f s1).bind fun b1 => (impl_ReadDecimal.f s2).bind fun b2 => (impl_ReadDecimal.f s3).bind fun b3 => (impl_ReadDecimal.f s4).bind fun b4 =>
      (impl_GeoLine.f b1.1 b2.1 b3.1 b4.1).bind fun g => (impl_isLine.f g l).bind fun t => if t = true then some (b1.1, b2.1, b3.1, b4.1, true) else some (0, 0, 0, 0, false)
  | _ => some (0, 0, 0, 0, false)
def impl_ReadGeo.f (k : Nat) (a0 : ByteArray) : Option (Int × Int × Int × Int × Bool) :=
  (impl_PartsOf.f k a0).bind fun b => if b.2 = true then impl_ReadGeo.g k b.1 else some (0, 0, 0, 0, false)
theorem impl_ReadGeo.mono : ∀ a0 k, LeO (impl_ReadGeo.f k a0) (impl_ReadGeo.f (k + 1) a0) := by
  intro a0 k r h
  unfold impl_ReadGeo.f at h ⊢
  obtain ⟨b, h1, h2⟩ := Option.bind_eq_some_iff.1 h
  rw [impl_PartsOf.mono a0 k b h1]
  exact h2
theorem bcell {W w1 : World} (hb : Below W.heap.size W w1) : (∀ b o, b < W.heap.size → w1.cell? ⟨b, o, none⟩ = W.cell? ⟨b, o, none⟩) ∧ (∀ b o, b < W.heap.size → w1.frozen? ⟨b, o, none⟩ = W.frozen? ⟨b, o, none⟩) :=
  ⟨fun b o h => hb.cell (p := ⟨b, o, none⟩) h, fun b o h => hb.frozen (p := ⟨b, o, none⟩) h⟩
theorem put4 {W : World} {g t : Nat} {a b c d : Value} (h : W.heap[g]? = some (.cells #[a, b, c, d] t (0, 0))) (x y z u : Value) :
    ((((W.setCell ⟨g, 0, none⟩ x).setCell ⟨g, 1, none⟩ y).setCell ⟨g, 2, none⟩ z).setCell ⟨g, 3, none⟩ u).heap[g]? = some (.cells #[x, y, z, u] t (0, 0)) :=
  blk_put (cs := #[x, y, z, d]) (blk_put (cs := #[x, y, c, d]) (blk_put (cs := #[x, b, c, d]) (blk_put h 0 x rfl) 1 y rfl) 2 z rfl) 3 u rfl
set_option maxHeartbeats 1000000 in
theorem geo_none (a0 : ByteArray) (k : Nat) (l : List ByteArray) (ok : Bool) (w : World) (hG : Glob w) (h : impl_PartsOf.f k a0 = some (l, ok)) (hn : ok = false ∨ l.length ≠ 5) :
    Calls Tryd.prog 24 #[.string a0] w fun e w' => e = .returned (.tuple #[.agg #[.int .i64 0, .int .i64 0, .int .i64 0, .int .i64 0], .bool false]) ∧ Below w.heap.size w w' := by
  have hu := Tryd.underlying47
  have hG' := Aside0.mk hG
  clear hG
  have H := Aside0.mk h
  clear h
  have w1 := Aside0.mk (hG'.out.below (below_alloc (Below.refl _ _) (.cells #[.int .i64 0, .int .i64 0, .int .i64 0, .int .i64 0] 47)))
  go_enter Tryd.func24, Tryd.ntmps24
  go_wp2_with fail
  refine (impl_PartsOf.calls k a0 l ok _ w1.out H.out).mono ?_
  rintro e w2 ⟨v0, rfl, hr, hb⟩
  obtain ⟨A, c, rfl⟩ := Kd.R_slice hr
  have HB := Aside0.mk hb
  clear hr w1 hG' H
  obtain ⟨hc, hf⟩ := bcell hb
  clear hb
  have gb := Aside0.mk (HB.out.block w.heap.size (by simp) |>.trans (blk_new w (.cells #[.int .i64 0, .int .i64 0, .int .i64 0, .int .i64 0] 47)))
  have fin : ∀ W : World, Below w.heap.size w W → W.heap[w.heap.size]? = some (.cells #[.int .i64 0, .int .i64 0, .int .i64 0, .int .i64 0] 47 (0, 0)) →
      ((((W.setCell ⟨w.heap.size, 0, none⟩ (.int .i64 0)).setCell ⟨w.heap.size, 1, none⟩ (.int .i64 0)).setCell ⟨w.heap.size, 2, none⟩ (.int .i64 0)).setCell ⟨w.heap.size, 3, none⟩ (.int .i64 0)).heap[w.heap.size]? = some (.cells #[.int .i64 0, .int .i64 0, .int .i64 0, .int .i64 0] 47 (0, 0)) ∧
      Below w.heap.size w ((((W.setCell ⟨w.heap.size, 0, none⟩ (.int .i64 0)).setCell ⟨w.heap.size, 1, none⟩ (.int .i64 0)).setCell ⟨w.heap.size, 2, none⟩ (.int .i64 0)).setCell ⟨w.heap.size, 3, none⟩ (.int .i64 0)) := fun W h1 h2 =>
    ⟨put4 h2 _ _ _ _, below_set (below_set (below_set (below_set h1 (Nat.le_refl _)) (Nat.le_refl _)) (Nat.le_refl _)) (Nat.le_refl _)⟩
  have FIN := Aside0.mk (fin w2 (below_step (below_alloc (Below.refl _ _) _) HB.out) gb.out)
  clear fin gb
  rcases hn with rfl | hn
  · go_wp2
    exact bodyPost_ret (results_ct rfl _ _ w.heap.size _ _ _ _ rfl FIN.out.1 hu rfl (by kernel_rfl)) rfl ⟨rfl, FIN.out.2⟩
  · cases ok with
    | false =>
      go_wp2
      exact bodyPost_ret (results_ct rfl _ _ w.heap.size _ _ _ _ rfl FIN.out.1 hu rfl (by kernel_rfl)) rfl ⟨rfl, FIN.out.2⟩
    | true =>
      have e5 : ((l.length : Int) == 5) = false := beq_eq_false_iff_ne.mpr (by omega)
      have e6 : ((l.length : Int) != 5) = true := by rw [bne, e5]; rfl
      generalize l.length = n at e5 e6
      clear hn
      go_wp2
      exact bodyPost_ret (results_ct rfl _ _ w.heap.size _ _ _ _ rfl FIN.out.1 hu rfl (by kernel_rfl)) rfl ⟨rfl, FIN.out.2⟩
def Row5 (W : World) (b o : Nat) (s0 s1 s2 s3 s4 : ByteArray) : Prop :=
  W.cell? ⟨b, o, none⟩ = some (.string s0) ∧ W.cell? ⟨b, o + 1, none⟩ = some (.string s1) ∧ W.cell? ⟨b, o + 2, none⟩ = some (.string s2) ∧ W.cell? ⟨b, o + 3, none⟩ = some (.string s3) ∧ W.cell? ⟨b, o + 4, none⟩ = some (.string s4)
theorem Row5.move {W W' : World} {b o : Nat} {s0 s1 s2 s3 s4 : ByteArray} (h : Row5 W b o s0 s1 s2 s3 s4) (e : W'.heap[b]? = W.heap[b]?) : Row5 W' b o s0 s1 s2 s3 s4 :=
  ⟨(World.cell?_of_block (a := ⟨b, o, none⟩) e).trans h.1, (World.cell?_of_block (a := ⟨b, o + 1, none⟩) e).trans h.2.1, (World.cell?_of_block (a := ⟨b, o + 2, none⟩) e).trans h.2.2.1, (World.cell?_of_block (a := ⟨b, o + 3, none⟩) e).trans h.2.2.2.1, (World.cell?_of_block (a := ⟨b, o + 4, none⟩) e).trans h.2.2.2.2⟩
set_option maxHeartbeats 4000000 in
set_option maxRecDepth 100000 in
theorem geo_some (a0 : ByteArray) (k : Nat) (s0 s1 s2 s3 s4 : ByteArray) (n0 n1 n2 n3 n4 : Int) (b0 b1 b2 b3 b4 : Bool) (g : ByteArray) (t : Bool) (w : World) (hG : Glob w) (h : impl_PartsOf.f k a0 = some ([s0, s1, s2, s3, s4], true))
    (h0 : impl_ReadDecimal.f s0 = some (n0, b0)) (h1 : impl_ReadDecimal.f s1 = some (n1, b1)) (h2 : impl_ReadDecimal.f s2 = some (n2, b2)) (h3 : impl_ReadDecimal.f s3 = some (n3, b3)) (h4 : impl_ReadDecimal.f s4 = some (n4, b4))
    (hg : impl_GeoLine.f n1 n2 n3 n4 = some g) (hl : impl_isLine.f g [s0, s1, s2, s3, s4] = some t) :
    Calls Tryd.prog 24 #[.string a0] w fun e w' => e = .returned (.tuple #[.agg #[.int .i64 (if t = true then n1 else 0), .int .i64 (if t = true then n2 else 0), .int .i64 (if t = true then n3 else 0), .int .i64 (if t = true then n4 else 0)], .bool t]) ∧ Below w.heap.size w w' := by
  have hu := Tryd.underlying47
  have hG' := Aside0.mk hG
  have H0 := Aside0.mk h0
  have H1 := Aside0.mk h1
  have H2 := Aside0.mk h2
  have H3 := Aside0.mk h3
  have H4 := Aside0.mk h4
  have HG := Aside0.mk hg
  have HL := Aside0.mk hl
  have H := Aside0.mk h
  clear hG h h0 h1 h2 h3 h4 hg hl
  have w1 := Aside0.mk (hG'.out.below (below_alloc (Below.refl _ _) (.cells #[.int .i64 0, .int .i64 0, .int .i64 0, .int .i64 0] 47)))
  go_enter Tryd.func24, Tryd.ntmps24
  go_wp2_with fail
  refine (impl_PartsOf.calls k a0 [s0, s1, s2, s3, s4] true _ w1.out H.out).mono ?_
  rintro e w2 ⟨v0, rfl, hr, hb⟩
  obtain ⟨A, c, rfl, hc, hC⟩ := Kd.R_reads hr
  obtain ⟨b, o, rfl, hcell⟩ := cells_of_C hC (by simp)
  have R2 : Row5 w2 b o s0 s1 s2 s3 s4 := ⟨hcell 0 _ rfl, hcell 1 _ rfl, hcell 2 _ rfl, hcell 3 _ rfl, hcell 4 _ rfl⟩
  have hlt : b < w2.heap.size := World.block_lt_of_cell? _ _ R2.1
  have gb := Aside0.mk ((hb.block w.heap.size (by simp)).trans (blk_new w (.cells #[.int .i64 0, .int .i64 0, .int .i64 0, .int .i64 0] 47)))
  have HB := Aside0.mk (below_step (below_alloc (Below.refl _ _) _) hb)
  have HS : w.heap.size < w2.heap.size := by have := hb.size; simp at this; omega
  have FF2 : Kd.F Kd.string w2 (fun k_ => k_ = b) (some ⟨b, o, none⟩) [s0, s1, s2, s3, s4].length [s0, s1, s2, s3, s4] := Kd.F_mono (Kd.R_F (Kd.R_tight rfl hr)) (fun k_ hk => by simpa [Value.ownBlock] using hk)
  have FF := Aside0.mk (Kd.F_alloc FF2 (.cells #[.int .i64 0, .int .i64 0, .int .i64 0, .int .i64 0, .int .i64 0] 109))
  have hne : b ≠ w2.heap.size := Nat.ne_of_lt hlt
  have HNE := Aside0.mk hne
  have RR := Aside0.mk (R2.move (W' := w2.alloc (.cells #[.int .i64 0, .int .i64 0, .int .i64 0, .int .i64 0, .int .i64 0] 109)) (Below.heap_alloc w2 _ b hlt))
  have AB := Aside0.mk (blk_new w2 (.cells #[.int .i64 0, .int .i64 0, .int .i64 0, .int .i64 0, .int .i64 0] 109))
  have GB := Aside0.mk (blk_alloc gb.out (.cells #[.int .i64 0, .int .i64 0, .int .i64 0, .int .i64 0, .int .i64 0] 109))
  have HB1 := Aside0.mk (below_alloc HB.out (.cells #[.int .i64 0, .int .i64 0, .int .i64 0, .int .i64 0, .int .i64 0] 109))
  have HS0 := Aside0.mk HS
  clear hr hb R2 hcell hC w1 H FF2 gb HB hne hlt
  simp only [List.length_cons, List.length_nil] at hc ⊢
  go_wp2
  refine wp_loop_rounds 6 ?_
  rw [rounds_succ]
  have rc := RR.out.1
  go_wp2_with fail
  refine (impl_ReadDecimal.calls s0 n0 b0 _ (hG'.out.below HB1.out) H0.out).mono ?_
  rintro e v0 ⟨rfl, hb⟩
  clear rc
  have RR' := Aside0.mk (RR.out.move (hb.block b (World.block_lt_of_cell? _ _ RR.out.1)))
  have AB' := Aside0.mk (blk_below AB.out hb)
  have GB' := Aside0.mk (blk_below GB.out hb)
  have HB1' := Aside0.mk (below_step HB1.out hb)
  have FF' := Aside0.mk (Kd.F_below FF.out hb)
  clear hb RR AB GB HB1 FF
  have cx : v0.cell? ⟨w2.heap.size, 0, none⟩ = some (.int .i64 0) := blk_cell AB'.out 0
  have fx : v0.frozen? ⟨w2.heap.size, 0, none⟩ = false := blk_frozen AB'.out 0
  go_wp2
  clear cx fx
  have RR := Aside0.mk (RR'.out.move (W' := v0.setCell ⟨w2.heap.size, 0, none⟩ (.int .i64 n0)) (Below.heap_setCell v0 ⟨w2.heap.size, 0, none⟩ _ b HNE.out))
  have AB := Aside0.mk (blk_put (cs' := #[.int .i64 n0, .int .i64 0, .int .i64 0, .int .i64 0, .int .i64 0]) AB'.out 0 (.int .i64 n0) rfl)
  have GB := Aside0.mk (blk_far (p := ⟨w2.heap.size, 0, none⟩) GB'.out (Nat.ne_of_lt HS0.out) (.int .i64 n0))
  have HB1 := Aside0.mk (below_set (j := 0) (v := .int .i64 n0) HB1'.out (Nat.le_of_lt HS0.out))
  have FF := Aside0.mk (Kd.F_far (p := ⟨w2.heap.size, 0, none⟩) FF'.out (fun k_ hk => by subst hk; exact HNE.out) (.int .i64 n0))
  clear RR' AB' GB' HB1' FF'
  rw [rounds_succ]
  have rc := RR.out.2.1
  go_wp2_with fail
  refine (impl_ReadDecimal.calls s1 n1 b1 _ (hG'.out.below HB1.out) H1.out).mono ?_
  rintro e v1 ⟨rfl, hb⟩
  clear rc
  have RR' := Aside0.mk (RR.out.move (hb.block b (World.block_lt_of_cell? _ _ RR.out.1)))
  have AB' := Aside0.mk (blk_below AB.out hb)
  have GB' := Aside0.mk (blk_below GB.out hb)
  have HB1' := Aside0.mk (below_step HB1.out hb)
  have FF' := Aside0.mk (Kd.F_below FF.out hb)
  clear hb RR AB GB HB1 FF
  have cx : v1.cell? ⟨w2.heap.size, 1, none⟩ = some (.int .i64 0) := blk_cell AB'.out 1
  have fx : v1.frozen? ⟨w2.heap.size, 1, none⟩ = false := blk_frozen AB'.out 1
  go_wp2
  clear cx fx
  have RR := Aside0.mk (RR'.out.move (W' := v1.setCell ⟨w2.heap.size, 1, none⟩ (.int .i64 n1)) (Below.heap_setCell v1 ⟨w2.heap.size, 1, none⟩ _ b HNE.out))
  have AB := Aside0.mk (blk_put (cs' := #[.int .i64 n0, .int .i64 n1, .int .i64 0, .int .i64 0, .int .i64 0]) AB'.out 1 (.int .i64 n1) rfl)
  have GB := Aside0.mk (blk_far (p := ⟨w2.heap.size, 1, none⟩) GB'.out (Nat.ne_of_lt HS0.out) (.int .i64 n1))
  have HB1 := Aside0.mk (below_set (j := 1) (v := .int .i64 n1) HB1'.out (Nat.le_of_lt HS0.out))
  have FF := Aside0.mk (Kd.F_far (p := ⟨w2.heap.size, 1, none⟩) FF'.out (fun k_ hk => by subst hk; exact HNE.out) (.int .i64 n1))
  clear RR' AB' GB' HB1' FF'
  rw [rounds_succ]
  have rc := RR.out.2.2.1
  go_wp2_with fail
  refine (impl_ReadDecimal.calls s2 n2 b2 _ (hG'.out.below HB1.out) H2.out).mono ?_
  rintro e v2 ⟨rfl, hb⟩
  clear rc
  have RR' := Aside0.mk (RR.out.move (hb.block b (World.block_lt_of_cell? _ _ RR.out.1)))
  have AB' := Aside0.mk (blk_below AB.out hb)
  have GB' := Aside0.mk (blk_below GB.out hb)
  have HB1' := Aside0.mk (below_step HB1.out hb)
  have FF' := Aside0.mk (Kd.F_below FF.out hb)
  clear hb RR AB GB HB1 FF
  have cx : v2.cell? ⟨w2.heap.size, 2, none⟩ = some (.int .i64 0) := blk_cell AB'.out 2
  have fx : v2.frozen? ⟨w2.heap.size, 2, none⟩ = false := blk_frozen AB'.out 2
  go_wp2
  clear cx fx
  have RR := Aside0.mk (RR'.out.move (W' := v2.setCell ⟨w2.heap.size, 2, none⟩ (.int .i64 n2)) (Below.heap_setCell v2 ⟨w2.heap.size, 2, none⟩ _ b HNE.out))
  have AB := Aside0.mk (blk_put (cs' := #[.int .i64 n0, .int .i64 n1, .int .i64 n2, .int .i64 0, .int .i64 0]) AB'.out 2 (.int .i64 n2) rfl)
  have GB := Aside0.mk (blk_far (p := ⟨w2.heap.size, 2, none⟩) GB'.out (Nat.ne_of_lt HS0.out) (.int .i64 n2))
  have HB1 := Aside0.mk (below_set (j := 2) (v := .int .i64 n2) HB1'.out (Nat.le_of_lt HS0.out))
  have FF := Aside0.mk (Kd.F_far (p := ⟨w2.heap.size, 2, none⟩) FF'.out (fun k_ hk => by subst hk; exact HNE.out) (.int .i64 n2))
  clear RR' AB' GB' HB1' FF'
  rw [rounds_succ]
  have rc := RR.out.2.2.2.1
  go_wp2_with fail
  refine (impl_ReadDecimal.calls s3 n3 b3 _ (hG'.out.below HB1.out) H3.out).mono ?_
  rintro e v3 ⟨rfl, hb⟩
  clear rc
  have RR' := Aside0.mk (RR.out.move (hb.block b (World.block_lt_of_cell? _ _ RR.out.1)))
  have AB' := Aside0.mk (blk_below AB.out hb)
  have GB' := Aside0.mk (blk_below GB.out hb)
  have HB1' := Aside0.mk (below_step HB1.out hb)
  have FF' := Aside0.mk (Kd.F_below FF.out hb)
  clear hb RR AB GB HB1 FF
  have cx : v3.cell? ⟨w2.heap.size, 3, none⟩ = some (.int .i64 0) := blk_cell AB'.out 3
  have fx : v3.frozen? ⟨w2.heap.size, 3, none⟩ = false := blk_frozen AB'.out 3
  go_wp2
  clear cx fx
  have RR := Aside0.mk (RR'.out.move (W' := v3.setCell ⟨w2.heap.size, 3, none⟩ (.int .i64 n3)) (Below.heap_setCell v3 ⟨w2.heap.size, 3, none⟩ _ b HNE.out))
  have AB := Aside0.mk (blk_put (cs' := #[.int .i64 n0, .int .i64 n1, .int .i64 n2, .int .i64 n3, .int .i64 0]) AB'.out 3 (.int .i64 n3) rfl)
  have GB := Aside0.mk (blk_far (p := ⟨w2.heap.size, 3, none⟩) GB'.out (Nat.ne_of_lt HS0.out) (.int .i64 n3))
  have HB1 := Aside0.mk (below_set (j := 3) (v := .int .i64 n3) HB1'.out (Nat.le_of_lt HS0.out))
  have FF := Aside0.mk (Kd.F_far (p := ⟨w2.heap.size, 3, none⟩) FF'.out (fun k_ hk => by subst hk; exact HNE.out) (.int .i64 n3))
  clear RR' AB' GB' HB1' FF'
  rw [rounds_succ]
  have rc := RR.out.2.2.2.2
  go_wp2_with fail
  refine (impl_ReadDecimal.calls s4 n4 b4 _ (hG'.out.below HB1.out) H4.out).mono ?_
  rintro e v4 ⟨rfl, hb⟩
  clear rc
  have RR' := Aside0.mk (RR.out.move (hb.block b (World.block_lt_of_cell? _ _ RR.out.1)))
  have AB' := Aside0.mk (blk_below AB.out hb)
  have GB' := Aside0.mk (blk_below GB.out hb)
  have HB1' := Aside0.mk (below_step HB1.out hb)
  have FF' := Aside0.mk (Kd.F_below FF.out hb)
  clear hb RR AB GB HB1 FF
  have cx : v4.cell? ⟨w2.heap.size, 4, none⟩ = some (.int .i64 0) := blk_cell AB'.out 4
  have fx : v4.frozen? ⟨w2.heap.size, 4, none⟩ = false := blk_frozen AB'.out 4
  go_wp2
  clear cx fx
  have RR := Aside0.mk (RR'.out.move (W' := v4.setCell ⟨w2.heap.size, 4, none⟩ (.int .i64 n4)) (Below.heap_setCell v4 ⟨w2.heap.size, 4, none⟩ _ b HNE.out))
  have AB := Aside0.mk (blk_put (cs' := #[.int .i64 n0, .int .i64 n1, .int .i64 n2, .int .i64 n3, .int .i64 n4]) AB'.out 4 (.int .i64 n4) rfl)
  have GB := Aside0.mk (blk_far (p := ⟨w2.heap.size, 4, none⟩) GB'.out (Nat.ne_of_lt HS0.out) (.int .i64 n4))
  have HB1 := Aside0.mk (below_set (j := 4) (v := .int .i64 n4) HB1'.out (Nat.le_of_lt HS0.out))
  have FF := Aside0.mk (Kd.F_far (p := ⟨w2.heap.size, 4, none⟩) FF'.out (fun k_ hk => by subst hk; exact HNE.out) (.int .i64 n4))
  clear RR' AB' GB' HB1' FF'
  rw [rounds_succ]
  have c1 : (v4.setCell ⟨w2.heap.size, 4, none⟩ (.int .i64 n4)).cell? ⟨w2.heap.size, 1, none⟩ = some (.int .i64 n1) := blk_cell AB.out 1
  have c2 : (v4.setCell ⟨w2.heap.size, 4, none⟩ (.int .i64 n4)).cell? ⟨w2.heap.size, 2, none⟩ = some (.int .i64 n2) := blk_cell AB.out 2
  have c3 : (v4.setCell ⟨w2.heap.size, 4, none⟩ (.int .i64 n4)).cell? ⟨w2.heap.size, 3, none⟩ = some (.int .i64 n3) := blk_cell AB.out 3
  have c4 : (v4.setCell ⟨w2.heap.size, 4, none⟩ (.int .i64 n4)).cell? ⟨w2.heap.size, 4, none⟩ = some (.int .i64 n4) := blk_cell AB.out 4
  generalize v4.setCell ⟨w2.heap.size, 4, none⟩ (.int .i64 n4) = w5 at *
  clear RR
  go_wp2_with fail
  refine (impl_GeoLine.calls n1 n2 n3 n4 g _ (hG'.out.below (below_alloc HB1.out _)) HG.out).mono ?_
  rintro e w6 ⟨rfl, hb⟩
  have GB6 := Aside0.mk (blk_below (blk_alloc GB.out _) hb)
  have NB6 := Aside0.mk (blk_below (blk_new w5 (.cells #[.int .i64 n1, .int .i64 n2, .int .i64 n3, .int .i64 n4] 47)) hb)
  have HB6 := Aside0.mk (below_step (below_alloc HB1.out _) hb)
  have FF6 := Aside0.mk (Kd.F_below (Kd.F_alloc FF.out _) hb)
  have HW5 := Aside0.mk HB1.out.size
  clear hb GB HB1 FF c1 c2 c3 c4 AB
  go_wp2_with fail
  refine (impl_isLine.calls g (some ⟨b, o, none⟩) c [s0, s1, s2, s3, s4] t _ (hG'.out.below HB6.out) (Kd.F_now FF6.out) hc HL.out).mono ?_
  rintro e w7 ⟨rfl, hb⟩
  have GB7 := Aside0.mk (blk_below GB6.out hb)
  have NB7 := Aside0.mk (blk_below NB6.out hb)
  have HB7 := Aside0.mk (below_step HB6.out hb)
  clear hb GB6 NB6 HB6 FF6
  have d0 : w7.cell? ⟨w5.heap.size, 0, none⟩ = some (.int .i64 n1) := blk_cell NB7.out 0
  have d1 : w7.cell? ⟨w5.heap.size, 1, none⟩ = some (.int .i64 n2) := blk_cell NB7.out 1
  have d2 : w7.cell? ⟨w5.heap.size, 2, none⟩ = some (.int .i64 n3) := blk_cell NB7.out 2
  have d3 : w7.cell? ⟨w5.heap.size, 3, none⟩ = some (.int .i64 n4) := blk_cell NB7.out 3
  have q0 : w7.cell? ⟨w.heap.size, 0, none⟩ = some (.int .i64 0) := blk_cell GB7.out 0
  have q1 : w7.cell? ⟨w.heap.size, 1, none⟩ = some (.int .i64 0) := blk_cell GB7.out 1
  have q2 : w7.cell? ⟨w.heap.size, 2, none⟩ = some (.int .i64 0) := blk_cell GB7.out 2
  have q3 : w7.cell? ⟨w.heap.size, 3, none⟩ = some (.int .i64 0) := blk_cell GB7.out 3
  have f0 : w7.frozen? ⟨w.heap.size, 0, none⟩ = false := blk_frozen GB7.out 0
  have f1 : w7.frozen? ⟨w.heap.size, 1, none⟩ = false := blk_frozen GB7.out 1
  have f2 : w7.frozen? ⟨w.heap.size, 2, none⟩ = false := blk_frozen GB7.out 2
  have f3 : w7.frozen? ⟨w.heap.size, 3, none⟩ = false := blk_frozen GB7.out 3
  cases t with
  | true =>
    go_wp2
    exact bodyPost_ret (results_ct rfl _ _ w.heap.size _ _ _ _ rfl (put4 GB7.out _ _ _ _) hu rfl (by kernel_rfl)) rfl ⟨rfl, below_set (below_set (below_set (below_set HB7.out (Nat.le_refl _)) (Nat.le_refl _)) (Nat.le_refl _)) (Nat.le_refl _)⟩
  | false =>
    go_wp2
    exact bodyPost_ret (results_ct rfl _ _ w.heap.size _ _ _ _ rfl (put4 GB7.out _ _ _ _) hu rfl (by kernel_rfl)) rfl ⟨rfl, below_set (below_set (below_set (below_set HB7.out (Nat.le_refl _)) (Nat.le_refl _)) (Nat.le_refl _)) (Nat.le_refl _)⟩
theorem impl_ReadGeo.calls (k : Nat) (a0 : ByteArray) (r1 : Int) (r2 : Int) (r3 : Int) (r4 : Int) (r5 : Bool) (w : World) (hG : Glob w) (h : impl_ReadGeo.f k a0 = some (r1, r2, r3, r4, r5)) :
    Calls Tryd.prog 24 #[.string a0] w fun e w' => e = .returned (.tuple #[.agg #[.int .i64 r1, .int .i64 r2, .int .i64 r3, .int .i64 r4], .bool r5]) ∧ Below w.heap.size w w' := by
  unfold impl_ReadGeo.f at h
  obtain ⟨⟨l, ok⟩, h1, h2⟩ := Option.bind_eq_some_iff.1 h
  simp only at h2
  have none_ : (ok = false ∨ l.length ≠ 5) → (some (0, 0, 0, 0, false) : Option (Int × Int × Int × Int × Bool)) = some (r1, r2, r3, r4, r5) → Calls Tryd.prog 24 #[.string a0] w fun e w' => e = .returned (.tuple #[.agg #[.int .i64 r1, .int .i64 r2, .int .i64 r3, .int .i64 r4], .bool r5]) ∧ Below w.heap.size w w' := fun hn e => by
    simp only [Option.some.injEq, Prod.mk.injEq] at e
    obtain ⟨rfl, rfl, rfl, rfl, rfl⟩ := e
    exact geo_none a0 k l ok w hG h1 hn
  cases ok with
  | false => exact none_ (.inl rfl) (by simpa using h2)
  | true =>
    rw [if_pos rfl] at h2
    unfold impl_ReadGeo.g at h2
    split at h2
    · obtain ⟨⟨n0, b0⟩, e0, h2⟩ := Option.bind_eq_some_iff.1 h2
      obtain ⟨⟨n1, b1⟩, e1, h2⟩ := Option.bind_eq_some_iff.1 h2
      obtain ⟨⟨n2, b2⟩, e2, h2⟩ := Option.bind_eq_some_iff.1 h2
      obtain ⟨⟨n3, b3⟩, e3, h2⟩ := Option.bind_eq_some_iff.1 h2
      obtain ⟨⟨n4, b4⟩, e4, h2⟩ := Option.bind_eq_some_iff.1 h2
      obtain ⟨g, eg, h2⟩ := Option.bind_eq_some_iff.1 h2
      obtain ⟨t, et, h2⟩ := Option.bind_eq_some_iff.1 h2
      have := geo_some a0 k _ _ _ _ _ n0 n1 n2 n3 n4 b0 b1 b2 b3 b4 g t w hG h1 e0 e1 e2 e3 e4 eg et
      cases t with
      | true =>
        simp only [if_true, Option.some.injEq, Prod.mk.injEq] at h2
        obtain ⟨rfl, rfl, rfl, rfl, rfl⟩ := h2
        simpa using this
      | false =>
        simp only [Bool.false_eq_true, if_false, Option.some.injEq, Prod.mk.injEq] at h2
        obtain ⟨rfl, rfl, rfl, rfl, rfl⟩ := h2
        simpa using this
    · rename_i hno
      refine none_ (.inr fun h5 => ?_) h2
      match l, h5, hno with
      | [s0, s1, s2, s3, s4], _, hno => exact hno s0 s1 s2 s3 s4 rfl

end Go.Proofs.YtggfonljcbmjmaaDoor.PFnExactReadGeo
