import Derived.Test.YtggfonljcbmjmaaDoorPFnExactReadGeox0
import Derived.Test.YtggfonljcbmjmaaDoorShelfGeo
import Derived.Lib.SlBytesRow
import Derived.Lib.SplitLaws
import Derived.Lib.ConvBytes
import Derived.Lib.LaidTab
import Derived.Lib.Fields
import Derived.WalkKit
import Derived.Sort.Grow
namespace Go.Proofs.YtggfonljcbmjmaaDoor.PFnExactReadGeo
open Go.RowKit Go.Proofs.YtggfonljcbmjmaaDoorW.PrintWords Go.Proofs.YtggfonljcbmjmaaDoorW.PrintLast Go.Proofs.YtggfonljcbmjmaaDoorW.PrintMore
set_option linter.unusedVariables false
set_option linter.unusedSimpArgs false
set_option linter.unusedSectionVars false

def msk (n m : Nat) : Array Bool := (List.replicate m true ++ List.replicate (n - m) false).toArray

/-! ### what the contracts of the library ask of the world -/
theorem cell_keep {w w' : World} (hb : Below w.heap.size w w') {a : Addr} {v : Value} (h : w.cell? a = some v) : w'.cell? a = some v := (hb.cell (World.block_lt_of_cell? _ _ h)).trans h
theorem tab_keep {name : String} {g : Nat} {k : IntKind} {d : List Int} {w w' : World} (hgn : Tryd.prog.globalNamed name = some g) (h : Lib.TabIs Tryd.prog w name k d) (hb : Below w.heap.size w w') : Lib.TabIs Tryd.prog w' name k d := by
  unfold Lib.TabIs World.var? at h ⊢
  rw [hgn] at h ⊢
  simp only [Option.bind_some] at h ⊢
  have hlt : g < w.heap.size := by
    rcases Nat.lt_or_ge g w.heap.size with h' | h'
    · exact h'
    · rw [Array.getElem?_eq_none h'] at h; cases h
  rw [hb.block _ hlt]
  exact h
structure Glob (w : World) : Prop where
  pow : Lib.TabIs Tryd.prog w "internal/strconv.uint64pow10" .u64 Lib.pow10Tab
  syn : ∃ tp p, w.cell? ⟨4, 0, none⟩ = some (.iface tp p)
  rng : ∃ tp p, w.cell? ⟨5, 0, none⟩ = some (.iface tp p)
  maxl : ∃ m, w.cell? ⟨3, 0, none⟩ = some (.int .i64 m)
  space : Lib.TabIs Tryd.prog w "strings.asciiSpace" .u8 Lib.asciiSpaceTab
theorem Glob.below {w w' : World} (h : Glob w) (hb : Below w.heap.size w w') : Glob w' :=
  ⟨tab_keep (g := 6) (by kernel_rfl) h.pow hb, let ⟨t, p, e⟩ := h.syn; ⟨t, p, cell_keep hb e⟩, let ⟨t, p, e⟩ := h.rng; ⟨t, p, cell_keep hb e⟩, let ⟨m, e⟩ := h.maxl; ⟨m, cell_keep hb e⟩, tab_keep (g := 0) (by kernel_rfl) h.space hb⟩


/-! ### strconv.Itoa -/
def strconv_Itoa.f (a0 : Int) : Option (ByteArray) := if -9223372036854775808 ≤ a0 ∧ a0 ≤ 9223372036854775807 then some ⟨(Lib.itoa a0).toArray⟩ else none
theorem below_growN (w : World) (k : Nat) (os : Array Obj) : Below w.heap.size w (Go.Sort.grow (w.drewN k) os) :=
  ⟨rfl, rfl, rfl, by rw [Go.Sort.size_grow]; exact Nat.le_add_right _ _, fun j hj => Go.Sort.heap_grow_old (w.drewN k) os hj⟩
theorem strconv_Itoa.calls (a0 : Int) (r : ByteArray) (w : World) (hG : Glob w) (h : strconv_Itoa.f a0 = some r) :
    Calls Tryd.prog 90 #[.int .i64 a0] w fun e w' => e = .returned (.string r) ∧ Below w.heap.size w w' := by
  unfold strconv_Itoa.f at h
  by_cases hb : -9223372036854775808 ≤ a0 ∧ a0 ≤ 9223372036854775807
  · rw [if_pos hb] at h
    obtain rfl := Option.some.inj h
    refine (Tryd.strconv_Itoa a0 hb.1 hb.2 w hG.pow).mono ?_
    rintro e w' ⟨rfl, k, os, rfl⟩
    exact ⟨rfl, below_growN w k os⟩
  · rw [if_neg hb] at h
    cases h

theorem below_bytesWorld (w : World) (e : TypeId) (s : ByteArray) : Below w.heap.size w (Lib.bytesWorld w e s) :=
  ⟨rfl, rfl, rfl, by rw [Lib.bytesWorld_size]; omega, fun k hk => Lib.bytesWorld_at_old w e s k hk⟩

/-! ### impl.ReadDecimal -/
theorem atoi_err (s : ByteArray) (hs : s.size ≤ 1048576) (w : World) (hG : Glob w) (h : ∀ v, Lib.atoiAll s.data.toList ≠ .ok v) :
    Calls Tryd.prog 99 #[.string s] w fun e w' => (∃ (n : Int) (N : Nat), e = .returned (.tuple #[.int .i64 n, .iface 237 (.pointer (some ⟨N, 0, none⟩))])) ∧ Below w.heap.size w w' := by
  rcases he : Lib.atoiAll s.data.toList with v | _ | _
  · exact absurd he (h v)
  · obtain ⟨tp, p, hc⟩ := hG.syn
    refine (Any.strconv_Atoi_syntax Tryd.laysC172 s (by omega) he _ w hc (.inr ⟨tp, p, rfl⟩)).mono ?_
    rintro e w' ⟨N, rfl, _, _, hb⟩
    exact ⟨⟨_, _, rfl⟩, hb⟩
  · obtain ⟨tp, p, hc⟩ := hG.rng
    refine (Tryd.strconv_Atoi_range s (by omega) he _ w hc (.inr ⟨tp, p, rfl⟩)).mono ?_
    rintro e w' ⟨N, rfl, _, _, hb⟩
    exact ⟨⟨_, _, rfl⟩, hb⟩
theorem atoi_ok (s : ByteArray) (hs : s.size ≤ 1048576) (w : World) (v : Int) (h : Lib.atoiAll s.data.toList = .ok v) :
    Calls Tryd.prog 99 #[.string s] w fun e w' => e = .returned (.tuple #[.int .i64 v, .nilIface]) ∧ Below w.heap.size w w' := by
  refine (Tryd.strconv_Atoi_ok s (by omega) v h w).mono ?_
  rintro e w' ⟨rfl, rfl | ⟨t, rfl⟩⟩
  · exact ⟨rfl, Below.refl _ _⟩
  · exact ⟨rfl, below_bytesWorld _ _ _⟩
theorem within_calls (n a b : Int) (w : World) : Calls Tryd.prog 55 #[.int .i64 n, .int .i64 a, .int .i64 b] w fun e w' => e = .returned (.bool (decide (a ≤ n ∧ n ≤ b))) ∧ Below w.heap.size w w' := by
  by_cases h1 : a ≤ n
  · by_cases h2 : n ≤ b
    · have q1 : decide (a ≤ n) = true := decide_eq_true h1
      have q2 : decide (n ≤ b) = true := decide_eq_true h2
      have q3 : decide (a ≤ n ∧ n ≤ b) = true := decide_eq_true ⟨h1, h2⟩
      rw [q3]
      go_enter Tryd.func55, Tryd.ntmps55
      go_wp2
      go_ret
      exact ⟨rfl, Below.refl _ _⟩
    · have q1 : decide (a ≤ n) = true := decide_eq_true h1
      have q2 : decide (n ≤ b) = false := decide_eq_false h2
      have q3 : decide (a ≤ n ∧ n ≤ b) = false := decide_eq_false (fun h => h2 h.2)
      rw [q3]
      go_enter Tryd.func55, Tryd.ntmps55
      go_wp2
      go_ret
      exact ⟨rfl, Below.refl _ _⟩
  · have q1 : decide (a ≤ n) = false := decide_eq_false h1
    have q3 : decide (a ≤ n ∧ n ≤ b) = false := decide_eq_false (fun h => h1 h.1)
    rw [q3]
    go_enter Tryd.func55, Tryd.ntmps55
    go_wp2
    go_ret
    exact ⟨rfl, Below.refl _ _⟩
theorem decimal_calls (n : Int) (t : ByteArray) (w : World) (hG : Glob w) (h : strconv_Itoa.f n = some t) : Calls Tryd.prog 57 #[.int .i64 n] w fun e w' => e = .returned (.string t) ∧ Below w.heap.size w w' := by
  go_enter Tryd.func57, Tryd.ntmps57
  go_wp2_with fail
  refine (strconv_Itoa.calls n t _ hG h).mono ?_
  rintro e w' ⟨rfl, hb2⟩
  have HB2 : Hid (Below w.heap.size w w') := hb2
  clear hb2
  go_wp2
  go_ret
  exact ⟨rfl, HB2.out⟩
def impl_ReadDecimal.f (a0 : ByteArray) : Option (Int × Bool) :=
  if a0.size ≤ 1048576 then (match Lib.atoiAll a0.data.toList with | .ok v => if (0 ≤ v ∧ v ≤ 1000000000) ∧ (⟨(Lib.itoa v).toArray⟩ : ByteArray).toList = a0.toList then some (v, true) else some (0, false) | _ => some (0, false)) else none
set_option maxHeartbeats 1000000 in
theorem impl_ReadDecimal.calls (a0 : ByteArray) (r1 : Int) (r2 : Bool) (w : World) (hG : Glob w) (h : impl_ReadDecimal.f a0 = some (r1, r2)) :
    Calls Tryd.prog 68 #[.string a0] w fun e w' => e = .returned (.tuple #[.int .i64 r1, .bool r2]) ∧ Below w.heap.size w w' := by
  unfold impl_ReadDecimal.f at h
  by_cases hb : a0.size ≤ 1048576
  case neg => rw [if_neg hb] at h; cases h
  rw [if_pos hb] at h
  have fail : (∀ v, Lib.atoiAll a0.data.toList ≠ .ok v) → Calls Tryd.prog 68 #[.string a0] w fun e w' => e = .returned (.tuple #[.int .i64 0, .bool false]) ∧ Below w.heap.size w w' := by
    intro hn
    clear h
    go_enter Tryd.func68, Tryd.ntmps68
    go_wp2_with fail
    refine (atoi_err a0 hb _ hG hn).mono ?_
    rintro e w' ⟨⟨n, N, rfl⟩, hb2⟩
    have HB2 : Hid (Below w.heap.size w w') := hb2
    clear hb2
    go_wp2
    go_ret2
    exact ⟨rfl, HB2.out⟩
  rcases he : Lib.atoiAll a0.data.toList with v | _ | _
  rotate_left
  · rw [he] at h
    simp only [Option.some.injEq, Prod.mk.injEq] at h
    obtain ⟨rfl, rfl⟩ := h
    exact fail (fun v => by rw [he]; simp)
  · rw [he] at h
    simp only [Option.some.injEq, Prod.mk.injEq] at h
    obtain ⟨rfl, rfl⟩ := h
    exact fail (fun v => by rw [he]; simp)
  · rw [he] at h
    simp only at h
    clear fail
    by_cases hw : 0 ≤ v ∧ v ≤ 1000000000
    · have w1 : decide (0 ≤ v ∧ v ≤ 1000000000) = true := decide_eq_true hw
      have hit : strconv_Itoa.f v = some (⟨(Lib.itoa v).toArray⟩ : ByteArray) := by unfold strconv_Itoa.f; rw [if_pos (by omega)]
      generalize ht : (⟨(Lib.itoa v).toArray⟩ : ByteArray) = t at hit h
      clear ht
      by_cases hq : t.toList = a0.toList
      · rw [if_pos ⟨hw, hq⟩] at h
        simp only [Option.some.injEq, Prod.mk.injEq] at h
        obtain ⟨rfl, rfl⟩ := h
        have q1 : (t.toList == a0.toList) = true := beq_iff_eq.mpr hq
        have q2 : (t.toList != a0.toList) = false := by rw [bne, q1]; rfl
        clear hq
        go_enter Tryd.func68, Tryd.ntmps68
        go_wp2_with fail
        refine (atoi_ok a0 hb _ v he).mono ?_
        rintro e w2 ⟨rfl, hb2⟩
        have HB2 : Hid (Below w.heap.size w w2) := hb2
        clear hb2
        go_wp2_with fail
        refine (within_calls v 0 1000000000 _).mono ?_
        rintro e w3 ⟨rfl, hb3⟩
        rw [w1]
        have HB3 : Hid (Below w.heap.size w w3) := below_step HB2.out hb3
        clear hb3 HB2
        go_wp2_with fail
        refine (decimal_calls v t _ (hG.below HB3.out) hit).mono ?_
        rintro e w4 ⟨rfl, hb4⟩
        have HB4 : Hid (Below w.heap.size w w4) := below_step HB3.out hb4
        clear hb4 HB3
        go_wp2
        go_ret2
        exact ⟨rfl, HB4.out⟩
      · rw [if_neg (fun e => hq e.2)] at h
        simp only [Option.some.injEq, Prod.mk.injEq] at h
        obtain ⟨rfl, rfl⟩ := h
        have q1 : (t.toList == a0.toList) = false := beq_eq_false_iff_ne.mpr hq
        have q2 : (t.toList != a0.toList) = true := by rw [bne, q1]; rfl
        clear hq
        go_enter Tryd.func68, Tryd.ntmps68
        go_wp2_with fail
        refine (atoi_ok a0 hb _ v he).mono ?_
        rintro e w2 ⟨rfl, hb2⟩
        have HB2 : Hid (Below w.heap.size w w2) := hb2
        clear hb2
        go_wp2_with fail
        refine (within_calls v 0 1000000000 _).mono ?_
        rintro e w3 ⟨rfl, hb3⟩
        rw [w1]
        have HB3 : Hid (Below w.heap.size w w3) := below_step HB2.out hb3
        clear hb3 HB2
        go_wp2_with fail
        refine (decimal_calls v t _ (hG.below HB3.out) hit).mono ?_
        rintro e w4 ⟨rfl, hb4⟩
        have HB4 : Hid (Below w.heap.size w w4) := below_step HB3.out hb4
        clear hb4 HB3
        go_wp2
        go_ret2
        exact ⟨rfl, HB4.out⟩
    · rw [if_neg (fun e => hw e.1)] at h
      simp only [Option.some.injEq, Prod.mk.injEq] at h
      obtain ⟨rfl, rfl⟩ := h
      have w1 : decide (0 ≤ v ∧ v ≤ 1000000000) = false := decide_eq_false hw
      go_enter Tryd.func68, Tryd.ntmps68
      go_wp2_with fail
      refine (atoi_ok a0 hb _ v he).mono ?_
      rintro e w2 ⟨rfl, hb2⟩
      have HB2 : Hid (Below w.heap.size w w2) := hb2
      clear hb2
      go_wp2_with fail
      refine (within_calls v 0 1000000000 _).mono ?_
      rintro e w3 ⟨rfl, hb3⟩
      rw [w1]
      have HB3 : Hid (Below w.heap.size w w3) := below_step HB2.out hb3
      clear hb3 HB2
      go_wp2
      go_ret2
      exact ⟨rfl, HB3.out⟩

/-! ### strings.Split, slices.Equal -/
theorem fresh_strings (W : World) (xs : List ByteArray) (hm : xs.length ≤ 9223372036854775807) :
    Kd.R Kd.string 9 (W.alloc (.cells (xs.map Value.string).toArray 9)) W.heap.size (fun _ => True) (.slice (some ⟨W.heap.size, 0, none⟩) xs.length xs.length) xs := by
  refine ⟨fun _ _ => trivial, OwnRow.lit W W.heap.size ⟨by simp [Kd.string, Kd.scalar], fun j p hj => ?_⟩ (Nat.le_refl _) hm⟩
  show ((xs.map Value.string).drop (j * 1)).take 1 = [Value.string p]
  obtain ⟨h1, h2⟩ := List.getElem?_eq_some_iff.1 hj
  rw [Nat.mul_one, List.drop_eq_getElem_cons (by simpa using h1)]
  simp [h2]
def strings_Split.f (a0 : ByteArray) (a1 : ByteArray) : Option (List ByteArray) := if a0.size < 4294967281 ∧ 1 ≤ a1.size then some (Lib.splitB a1 0 (Lib.countB a0 a1) a0) else none
theorem strings_Split.calls (a0 : ByteArray) (a1 : ByteArray) (r : List ByteArray) (w : World) (hG : Glob w) (h : strings_Split.f a0 a1 = some r) :
    Calls Tryd.prog 75 #[.string a0, .string a1] w fun e w' => ∃ v0_ : Value, e = .returned (v0_) ∧ Kd.R Kd.string 9 w' w.heap.size (fun _ => True) v0_ r ∧ Below w.heap.size w w' := by
  unfold strings_Split.f at h
  by_cases hb : a0.size < 4294967281 ∧ 1 ≤ a1.size
  case neg => rw [if_neg hb] at h; cases h
  rw [if_pos hb] at h
  obtain rfl := Option.some.inj h
  obtain ⟨m, hm⟩ := hG.maxl
  refine (Tryd.strings_Split a0 a1 m w hb.1 hm hb.2).mono ?_
  rintro e w' ⟨rfl, rfl⟩
  have hl := Lib.splitB_all a1 hb.2 0 (Lib.countB a0 a1) a0 rfl
  have hc := Lib.countB_le a1 hb.2 a0.size a0 (Nat.le_refl _)
  refine ⟨_, rfl, ?_, below_alloc (Below.refl _ _) _⟩
  rw [← hl]
  exact fresh_strings w _ (by omega)
theorem cells_of_C {w : World} {A : Option Addr} {xs : List ByteArray} (h : Kd.C Kd.string w A xs.length xs) (hn : xs ≠ []) :
    ∃ b o, A = some ⟨b, o, none⟩ ∧ ∀ (j : Nat) y, xs[j]? = some y → w.cell? ⟨b, o + j, none⟩ = some (.string y) := by
  have hp : 0 < xs.length := by
    cases xs with
    | nil => exact absurd rfl hn
    | cons _ _ => simp
  obtain ⟨⟨b, o, s⟩, rfl, hcl⟩ := h.2.2 hp
  have cells : ∀ (j : Nat) y, xs[j]? = some y → w.cell? (Go.Addr.add ⟨b, o, s⟩ j) = some (.string y) := fun j y hj => by
    obtain ⟨c, _, hk, hcell⟩ := hcl j y hj
    have hk' : c = [.string y] := hk
    subst hk'
    have := hcell 0 (.string y) rfl
    have e : j * (Kd.string).sz + 0 = j := by simp [Kd.string, Kd.scalar]
    rw [e] at this
    exact this
  have h0 := cells 0 xs[0] (List.getElem?_eq_getElem hp)
  have hs : s = none := by
    cases s with
    | none => rfl
    | some q =>
      exfalso
      unfold World.cell? Go.Addr.add at h0
      simp at h0
      split at h0 <;> simp at h0
  subst hs
  refine ⟨b, o, rfl, fun j y hj => ?_⟩
  have := cells j y hj
  unfold Go.Addr.add at this
  by_cases hj0 : j = 0
  · subst hj0; simpa using this
  · rw [if_neg hj0] at this; exact this
theorem below_drewN' (w : World) (q : Nat) : Below w.heap.size w (w.drewN q) := pw_below_drewN (Below.refl _ _) q
def slices_Equal_string_string.f (l0 : List ByteArray) (l1 : List ByteArray) : Option (Bool) := some (decide (l0 = l1))
theorem slices_Equal_string_string.calls (A0 : Option Addr) (c0 : Nat) (l0 : List ByteArray) (A1 : Option Addr) (c1 : Nat) (l1 : List ByteArray) (r : Bool) (w : World) (hr0 : Kd.C Kd.string w A0 l0.length l0) (hc0 : l0.length ≤ c0) (hr1 : Kd.C Kd.string w A1 l1.length l1) (hc1 : l1.length ≤ c1) (h : slices_Equal_string_string.f l0 l1 = some r) :
    Calls Tryd.prog 74 #[.slice A0 l0.length c0, .slice A1 l1.length c1] w fun e w' => e = .returned (.bool r) ∧ Below w.heap.size w w' := by
  obtain rfl := Option.some.inj h
  by_cases h0 : l0 = []
  · subst h0
    refine (Tryd.slices_Equal_string_empty A0 A1 c0 l1.length c1 w hr1.2.1).mono ?_
    rintro e w' ⟨rfl, rfl⟩
    refine ⟨?_, Below.refl _ _⟩
    congr 2
    cases l1 <;> simp
  obtain ⟨b0, o0, rfl, k0⟩ := cells_of_C hr0 h0
  by_cases h1 : l1 = []
  · subst h1
    have hl : l0.length ≠ 0 := fun e => h0 (List.length_eq_zero_iff.1 e)
    have e1 : ((l0.length : Int) == 0) = false := beq_eq_false_iff_ne.mpr (by omega)
    have e2 : ((l0.length : Int) != 0) = true := by rw [bne, e1]; rfl
    rw [show decide (l0 = []) = false from decide_eq_false h0, List.length_nil]
    generalize l0.length = n at e1 e2
    clear k0 hr0 hr1 hc0 hc1 h0 hl
    go_enter Tryd.func74, Tryd.ntmps74
    go_wp2
    go_ret
    exact ⟨rfl, by first | exact Below.refl _ _ | (repeat (first | exact Below.refl _ _ | apply pw_below_drewN | apply below_drew1))⟩
  obtain ⟨b1, o1, rfl, k1⟩ := cells_of_C hr1 h1
  refine (Tryd.slices_Equal_string b0 o0 l0.length c0 b1 o1 l1.length c1 l0 l1 w (Nat.le_refl _) (Nat.le_refl _) hr0.2.1 hr1.2.1 (fun j hj => by rw [k0 j _ (List.getElem?_eq_getElem hj)]; simp [hj]) (fun j hj => by rw [k1 j _ (List.getElem?_eq_getElem hj)]; simp [hj])).mono ?_
  rintro e w' ⟨rfl, q, rfl⟩
  refine ⟨?_, below_drewN' w q⟩
  rw [List.take_length, List.take_length]

/-! ### strings.Fields -/
def strings_Fields.f (a0 : ByteArray) : Option (List ByteArray) := if a0.size ≤ 1048576 ∧ (a0.data.toList.all fun b => decide (b.toNat < 128)) = true then some ((Lib.fields a0.data.toList).map fun l => (⟨l.toArray⟩ : ByteArray)) else none
theorem cntF_le : ∀ (l : List UInt8) (b : Bool), Lib.cntF b l ≤ l.length
  | [], _ => Nat.le_refl _
  | c :: l, b => by
    have := cntF_le l (Lib.isSp c)
    unfold Lib.cntF
    rw [List.length_cons]
    split <;> omega
theorem fields_len (a0 : ByteArray) (h : a0.size ≤ 1048576) : (Lib.fields a0.data.toList).length ≤ 9223372036854775807 := by
  have h1 := Lib.fieldsGo_length a0.data.toList []
  have h2 := cntF_le a0.data.toList true
  have h3 : a0.data.toList.length = a0.size := by simp
  have h4 : (Lib.fields a0.data.toList).length = (if ([] : List UInt8).isEmpty then 0 else 1) + Lib.cntF ([] : List UInt8).isEmpty a0.data.toList := h1
  rw [h4]
  simp only [List.isEmpty_nil, if_true]
  omega
theorem strings_Fields.calls (a0 : ByteArray) (r : List ByteArray) (w : World) (hG : Glob w) (h : strings_Fields.f a0 = some r) :
    Calls Tryd.prog 98 #[.string a0] w fun e w' => ∃ v0_ : Value, e = .returned (v0_) ∧ Kd.R Kd.string 9 w' w.heap.size (fun _ => True) v0_ r ∧ Below w.heap.size w w' := by
  unfold strings_Fields.f at h
  by_cases hb : a0.size ≤ 1048576 ∧ (a0.data.toList.all fun b => decide (b.toNat < 128)) = true
  case neg => rw [if_neg hb] at h; cases h
  rw [if_pos hb] at h
  obtain rfl := Option.some.inj h
  refine (Tryd.strings_Fields_laid a0 w (by omega) (fun j b hj => ?_) hG.space).mono ?_
  · have := List.all_eq_true.1 hb.2 b (List.mem_of_getElem? hj)
    simpa using this
  rintro e w' ⟨rfl, rfl⟩
  refine ⟨_, rfl, ?_, below_alloc (Below.refl _ _) _⟩
  have := fresh_strings w ((Lib.fields a0.data.toList).map fun l => (⟨l.toArray⟩ : ByteArray)) (by rw [List.length_map]; exact fields_len a0 hb.1)
  rw [List.length_map, List.map_map] at this
  exact this

end Go.Proofs.YtggfonljcbmjmaaDoor.PFnExactReadGeo
