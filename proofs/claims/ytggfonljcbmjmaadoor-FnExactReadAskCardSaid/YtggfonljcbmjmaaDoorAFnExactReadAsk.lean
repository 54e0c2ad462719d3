import Derived.Test.YtggfonljcbmjmaaDoorPFnExactReadAskx0
import Derived.Test.YtggfonljcbmjmaaDoorShelfRead
import Derived.Lib.SlBytesRow
import Derived.Lib.SplitLaws
import Derived.Lib.ConvBytes
import Derived.Lib.LaidTab
import Derived.WalkKit
import Derived.Sort.Grow
namespace Go.Proofs.YtggfonljcbmjmaaDoor.PFnExactReadAsk
open Go.RowKit Go.Proofs.YtggfonljcbmjmaaDoorW.PrintWords Go.Proofs.YtggfonljcbmjmaaDoorW.PrintLast Go.Proofs.YtggfonljcbmjmaaDoorW.PrintMore
set_option linter.unusedVariables false
set_option linter.unusedSimpArgs false
set_option linter.unusedSectionVars false

def msk (n m : Nat) : Array Bool := (List.replicate m true ++ List.replicate (n - m) false).toArray

/-! ### what the contracts of the library ask of the world -/
theorem cell_keep {w w' : World} (hb : Below w.heap.size w w') {a : Addr} {v : Value} (h : w.cell? a = some v) : w'.cell? a = some v := (hb.cell (World.block_lt_of_cell? _ _ h)).trans h
theorem tab_keep {name : String} {g : Nat} {k : IntKind} {d : List Int} {w w' : World} (hgn : Tryd.prog.globalNamed name = some g) (h : Lib.TabIs Tryd.prog w name k d) (hb : Below w.heap.size w w') : Lib.TabIs Tryd.prog w' name k d := by
  unfold Lib.TabIs World.var? at h ⊢
  rw [hgn] at h ⊢
  simp only [Option.bind_some] at h ⊢
  have hlt : g < w.heap.size := by
    rcases Nat.lt_or_ge g w.heap.size with h' | h'
    · exact h'
    · rw [Array.getElem?_eq_none h'] at h; cases h
  rw [hb.block _ hlt]
  exact h
structure Glob (w : World) : Prop where
  pow : Lib.TabIs Tryd.prog w "internal/strconv.uint64pow10" .u64 Lib.pow10Tab
  syn : ∃ tp p, w.cell? ⟨4, 0, none⟩ = some (.iface tp p)
  rng : ∃ tp p, w.cell? ⟨5, 0, none⟩ = some (.iface tp p)
  maxl : ∃ m, w.cell? ⟨3, 0, none⟩ = some (.int .i64 m)
  hexl : ∃ tp p, w.cell? ⟨2, 0, none⟩ = some (.iface tp p)
theorem Glob.below {w w' : World} (h : Glob w) (hb : Below w.heap.size w w') : Glob w' :=
  ⟨tab_keep (g := 6) (by kernel_rfl) h.pow hb, let ⟨t, p, e⟩ := h.syn; ⟨t, p, cell_keep hb e⟩, let ⟨t, p, e⟩ := h.rng; ⟨t, p, cell_keep hb e⟩, let ⟨m, e⟩ := h.maxl; ⟨m, cell_keep hb e⟩, let ⟨t, p, e⟩ := h.hexl; ⟨t, p, cell_keep hb e⟩⟩


/-! ### strconv.Itoa -/
def strconv_Itoa.f (a0 : Int) : Option (ByteArray) := if -9223372036854775808 ≤ a0 ∧ a0 ≤ 9223372036854775807 then some ⟨(Lib.itoa a0).toArray⟩ else none
theorem below_growN (w : World) (k : Nat) (os : Array Obj) : Below w.heap.size w (Go.Sort.grow (w.drewN k) os) :=
  ⟨rfl, rfl, rfl, by rw [Go.Sort.size_grow]; exact Nat.le_add_right _ _, fun j hj => Go.Sort.heap_grow_old (w.drewN k) os hj⟩
theorem strconv_Itoa.calls (a0 : Int) (r : ByteArray) (w : World) (hG : Glob w) (h : strconv_Itoa.f a0 = some r) :
    Calls Tryd.prog 90 #[.int .i64 a0] w fun e w' => e = .returned (.string r) ∧ Below w.heap.size w w' := by
  unfold strconv_Itoa.f at h
  by_cases hb : -9223372036854775808 ≤ a0 ∧ a0 ≤ 9223372036854775807
  · rw [if_pos hb] at h
    obtain rfl := Option.some.inj h
    refine (Tryd.strconv_Itoa a0 hb.1 hb.2 w hG.pow).mono ?_
    rintro e w' ⟨rfl, k, os, rfl⟩
    exact ⟨rfl, below_growN w k os⟩
  · rw [if_neg hb] at h
    cases h


/-! ### impl.Hex -/
def impl_Hex.f (a0 : ByteArray) : Option (ByteArray × Bool) := if a0.size ≤ 1048576 then (if a0.size ≤ 20000 then some (⟨(Lib.Hx.encode a0.data.toList).toArray⟩, true) else some (⟨#[]⟩, false)) else none
theorem below_bytesWorld (w : World) (e : TypeId) (s : ByteArray) : Below w.heap.size w (Lib.bytesWorld w e s) :=
  ⟨rfl, rfl, rfl, by rw [Lib.bytesWorld_size]; omega, fun k hk => Lib.bytesWorld_at_old w e s k hk⟩
set_option maxHeartbeats 1000000 in
theorem impl_Hex.calls (a0 : ByteArray) (r1 : ByteArray) (r2 : Bool) (w : World) (h : impl_Hex.f a0 = some (r1, r2)) :
    Calls Tryd.prog 91 #[.string a0] w fun e w' => e = .returned (.tuple #[.string r1, .bool r2]) ∧ Below w.heap.size w w' := by
  unfold impl_Hex.f at h
  by_cases hb : a0.size ≤ 1048576
  case neg => rw [if_neg hb] at h; cases h
  rw [if_pos hb] at h
  by_cases hs : a0.size ≤ 20000
  · rw [if_pos hs] at h
    injection h with h
    injection h with h1 h2
    subst h1; subst h2
    have hgt : decide (20000 < (a0.size : Int)) = false := by simp; omega
    have hx : Hid (Lib.bytesOf (a0.data.toList.map fun b => (b.toNat : Int)) = a0.data.toList) := by
      unfold Hid Lib.bytesOf
      rw [List.map_map]
      conv => rhs; rw [← List.map_id a0.data.toList]
      apply List.map_congr_left
      intro b _
      simp
    have kc := fun W => Lib.run_convert_string_bytes (P := Tryd.prog) W 9 59 5 a0 Tryd.underlying9 Tryd.underlying59 Tryd.underlying5
    have HB : Hid (Below w.heap.size w (Lib.bytesWorld w 5 a0)) := below_bytesWorld w _ a0
    have HS : Hid (w.heap.size < (Lib.bytesWorld w 5 a0).heap.size) := by unfold Hid; rw [Lib.bytesWorld_size]; omega
    have HC : Hid (∀ i, i < a0.size → (Lib.bytesWorld w 5 a0).cell? ⟨w.heap.size, 0 + i, none⟩ = some (.int .u8 ((a0.data.toList.map fun b => (b.toNat : Int)).getD i 0))) := fun i hi => by
      rw [Nat.zero_add, Lib.bytesWorld_cell w _ a0 i hi]
      have hl : i < a0.data.toList.length := by simpa using hi
      simp [List.getD_eq_getElem?_getD, hi]
    have HR : Hid (∀ i, i < a0.size → 0 ≤ (a0.data.toList.map fun b => (b.toNat : Int)).getD i 0 ∧ (a0.data.toList.map fun b => (b.toNat : Int)).getD i 0 < 256) := fun i hi => by
      have hl : i < a0.data.toList.length := by simpa using hi
      rw [List.getD_eq_getElem?_getD, List.getElem?_map, List.getElem?_eq_getElem hl]
      have := (a0.data.toList[i]).toNat_lt
      simp only [Option.map_some, Option.getD_some]
      omega
    clear hgt
    have hgt : ((a0.size : Int) > 20000) = False := by simp; omega
    have hgt2 : decide ((20000 : Int) < (a0.size : Int)) = false := by simp; omega
    go_enter Tryd.func91, Tryd.ntmps91
    go_wp2_with fail
    refine (Tryd.hex_EncodeToString w.heap.size 0 a0.size _ (a0.data.toList.map fun b => (b.toNat : Int)) _ (by simp) HR.out HC.out HS.out (by omega)).mono ?_
    rintro e w' ⟨rfl, hb2⟩
    have HB2 : Hid (Below (Lib.bytesWorld w 5 a0).heap.size (Lib.bytesWorld w 5 a0) w') := hb2
    clear hb2
    go_wp2
    go_ret2
    exact ⟨by first | rfl | (rw [hx.out]; rfl), HB.out.trans (HB2.out.mono (Nat.le_of_lt HS.out))⟩
  · rw [if_neg hs] at h
    injection h with h
    injection h with h1 h2
    subst h1; subst h2
    have hgt2 : decide ((20000 : Int) < (a0.size : Int)) = true := by simp; omega
    go_enter Tryd.func91, Tryd.ntmps91
    go_wp2
    go_ret2
    exact ⟨rfl, Below.refl _ _⟩

/-! ### impl.ReadDecimal -/
theorem atoi_err (s : ByteArray) (hs : s.size ≤ 1048576) (w : World) (hG : Glob w) (h : ∀ v, Lib.atoiAll s.data.toList ≠ .ok v) :
    Calls Tryd.prog 99 #[.string s] w fun e w' => (∃ (n : Int) (N : Nat), e = .returned (.tuple #[.int .i64 n, .iface 237 (.pointer (some ⟨N, 0, none⟩))])) ∧ Below w.heap.size w w' := by
  rcases he : Lib.atoiAll s.data.toList with v | _ | _
  · exact absurd he (h v)
  · obtain ⟨tp, p, hc⟩ := hG.syn
    refine (Any.strconv_Atoi_syntax Tryd.laysC172 s (by omega) he _ w hc (.inr ⟨tp, p, rfl⟩)).mono ?_
    rintro e w' ⟨N, rfl, _, _, hb⟩
    exact ⟨⟨_, _, rfl⟩, hb⟩
  · obtain ⟨tp, p, hc⟩ := hG.rng
    refine (Tryd.strconv_Atoi_range s (by omega) he _ w hc (.inr ⟨tp, p, rfl⟩)).mono ?_
    rintro e w' ⟨N, rfl, _, _, hb⟩
    exact ⟨⟨_, _, rfl⟩, hb⟩
theorem atoi_ok (s : ByteArray) (hs : s.size ≤ 1048576) (w : World) (v : Int) (h : Lib.atoiAll s.data.toList = .ok v) :
    Calls Tryd.prog 99 #[.string s] w fun e w' => e = .returned (.tuple #[.int .i64 v, .nilIface]) ∧ Below w.heap.size w w' := by
  refine (Tryd.strconv_Atoi_ok s (by omega) v h w).mono ?_
  rintro e w' ⟨rfl, rfl | ⟨t, rfl⟩⟩
  · exact ⟨rfl, Below.refl _ _⟩
  · exact ⟨rfl, below_bytesWorld _ _ _⟩
theorem within_calls (n a b : Int) (w : World) : Calls Tryd.prog 55 #[.int .i64 n, .int .i64 a, .int .i64 b] w fun e w' => e = .returned (.bool (decide (a ≤ n ∧ n ≤ b))) ∧ Below w.heap.size w w' := by
  by_cases h1 : a ≤ n
  · by_cases h2 : n ≤ b
    · have q1 : decide (a ≤ n) = true := decide_eq_true h1
      have q2 : decide (n ≤ b) = true := decide_eq_true h2
      have q3 : decide (a ≤ n ∧ n ≤ b) = true := decide_eq_true ⟨h1, h2⟩
      rw [q3]
      go_enter Tryd.func55, Tryd.ntmps55
      go_wp2
      go_ret
      exact ⟨rfl, Below.refl _ _⟩
    · have q1 : decide (a ≤ n) = true := decide_eq_true h1
      have q2 : decide (n ≤ b) = false := decide_eq_false h2
      have q3 : decide (a ≤ n ∧ n ≤ b) = false := decide_eq_false (fun h => h2 h.2)
      rw [q3]
      go_enter Tryd.func55, Tryd.ntmps55
      go_wp2
      go_ret
      exact ⟨rfl, Below.refl _ _⟩
  · have q1 : decide (a ≤ n) = false := decide_eq_false h1
    have q3 : decide (a ≤ n ∧ n ≤ b) = false := decide_eq_false (fun h => h1 h.1)
    rw [q3]
    go_enter Tryd.func55, Tryd.ntmps55
    go_wp2
    go_ret
    exact ⟨rfl, Below.refl _ _⟩
theorem decimal_calls (n : Int) (t : ByteArray) (w : World) (hG : Glob w) (h : strconv_Itoa.f n = some t) : Calls Tryd.prog 57 #[.int .i64 n] w fun e w' => e = .returned (.string t) ∧ Below w.heap.size w w' := by
  go_enter Tryd.func57, Tryd.ntmps57
  go_wp2_with fail
  refine (strconv_Itoa.calls n t _ hG h).mono ?_
  rintro e w' ⟨rfl, hb2⟩
  have HB2 : Hid (Below w.heap.size w w') := hb2
  clear hb2
  go_wp2
  go_ret
  exact ⟨rfl, HB2.out⟩
def impl_ReadDecimal.f (a0 : ByteArray) : Option (Int × Bool) :=
  if a0.size ≤ 1048576 then (match Lib.atoiAll a0.data.toList with | .ok v => if (0 ≤ v ∧ v ≤ 1000000000) ∧ (⟨(Lib.itoa v).toArray⟩ : ByteArray).toList = a0.toList then some (v, true) else some (0, false) | _ => some (0, false)) else none
set_option maxHeartbeats 1000000 in
theorem impl_ReadDecimal.calls (a0 : ByteArray) (r1 : Int) (r2 : Bool) (w : World) (hG : Glob w) (h : impl_ReadDecimal.f a0 = some (r1, r2)) :
    Calls Tryd.prog 68 #[.string a0] w fun e w' => e = .returned (.tuple #[.int .i64 r1, .bool r2]) ∧ Below w.heap.size w w' := by
  unfold impl_ReadDecimal.f at h
  by_cases hb : a0.size ≤ 1048576
  case neg => rw [if_neg hb] at h; cases h
  rw [if_pos hb] at h
  have fail : (∀ v, Lib.atoiAll a0.data.toList ≠ .ok v) → Calls Tryd.prog 68 #[.string a0] w fun e w' => e = .returned (.tuple #[.int .i64 0, .bool false]) ∧ Below w.heap.size w w' := by
    intro hn
    clear h
    go_enter Tryd.func68, Tryd.ntmps68
    go_wp2_with fail
    refine (atoi_err a0 hb _ hG hn).mono ?_
    rintro e w' ⟨⟨n, N, rfl⟩, hb2⟩
    have HB2 : Hid (Below w.heap.size w w') := hb2
    clear hb2
    go_wp2
    go_ret2
    exact ⟨rfl, HB2.out⟩
  rcases he : Lib.atoiAll a0.data.toList with v | _ | _
  rotate_left
  · rw [he] at h
    simp only [Option.some.injEq, Prod.mk.injEq] at h
    obtain ⟨rfl, rfl⟩ := h
    exact fail (fun v => by rw [he]; simp)
  · rw [he] at h
    simp only [Option.some.injEq, Prod.mk.injEq] at h
    obtain ⟨rfl, rfl⟩ := h
    exact fail (fun v => by rw [he]; simp)
  · rw [he] at h
    simp only at h
    clear fail
    by_cases hw : 0 ≤ v ∧ v ≤ 1000000000
    · have w1 : decide (0 ≤ v ∧ v ≤ 1000000000) = true := decide_eq_true hw
      have hit : strconv_Itoa.f v = some (⟨(Lib.itoa v).toArray⟩ : ByteArray) := by unfold strconv_Itoa.f; rw [if_pos (by omega)]
      generalize ht : (⟨(Lib.itoa v).toArray⟩ : ByteArray) = t at hit h
      clear ht
      by_cases hq : t.toList = a0.toList
      · rw [if_pos ⟨hw, hq⟩] at h
        simp only [Option.some.injEq, Prod.mk.injEq] at h
        obtain ⟨rfl, rfl⟩ := h
        have q1 : (t.toList == a0.toList) = true := beq_iff_eq.mpr hq
        have q2 : (t.toList != a0.toList) = false := by rw [bne, q1]; rfl
        clear hq
        go_enter Tryd.func68, Tryd.ntmps68
        go_wp2_with fail
        refine (atoi_ok a0 hb _ v he).mono ?_
        rintro e w2 ⟨rfl, hb2⟩
        have HB2 : Hid (Below w.heap.size w w2) := hb2
        clear hb2
        go_wp2_with fail
        refine (within_calls v 0 1000000000 _).mono ?_
        rintro e w3 ⟨rfl, hb3⟩
        rw [w1]
        have HB3 : Hid (Below w.heap.size w w3) := below_step HB2.out hb3
        clear hb3 HB2
        go_wp2_with fail
        refine (decimal_calls v t _ (hG.below HB3.out) hit).mono ?_
        rintro e w4 ⟨rfl, hb4⟩
        have HB4 : Hid (Below w.heap.size w w4) := below_step HB3.out hb4
        clear hb4 HB3
        go_wp2
        go_ret2
        exact ⟨rfl, HB4.out⟩
      · rw [if_neg (fun e => hq e.2)] at h
        simp only [Option.some.injEq, Prod.mk.injEq] at h
        obtain ⟨rfl, rfl⟩ := h
        have q1 : (t.toList == a0.toList) = false := beq_eq_false_iff_ne.mpr hq
        have q2 : (t.toList != a0.toList) = true := by rw [bne, q1]; rfl
        clear hq
        go_enter Tryd.func68, Tryd.ntmps68
        go_wp2_with fail
        refine (atoi_ok a0 hb _ v he).mono ?_
        rintro e w2 ⟨rfl, hb2⟩
        have HB2 : Hid (Below w.heap.size w w2) := hb2
        clear hb2
        go_wp2_with fail
        refine (within_calls v 0 1000000000 _).mono ?_
        rintro e w3 ⟨rfl, hb3⟩
        rw [w1]
        have HB3 : Hid (Below w.heap.size w w3) := below_step HB2.out hb3
        clear hb3 HB2
        go_wp2_with fail
        refine (decimal_calls v t _ (hG.below HB3.out) hit).mono ?_
        rintro e w4 ⟨rfl, hb4⟩
        have HB4 : Hid (Below w.heap.size w w4) := below_step HB3.out hb4
        clear hb4 HB3
        go_wp2
        go_ret2
        exact ⟨rfl, HB4.out⟩
    · rw [if_neg (fun e => hw e.1)] at h
      simp only [Option.some.injEq, Prod.mk.injEq] at h
      obtain ⟨rfl, rfl⟩ := h
      have w1 : decide (0 ≤ v ∧ v ≤ 1000000000) = false := decide_eq_false hw
      go_enter Tryd.func68, Tryd.ntmps68
      go_wp2_with fail
      refine (atoi_ok a0 hb _ v he).mono ?_
      rintro e w2 ⟨rfl, hb2⟩
      have HB2 : Hid (Below w.heap.size w w2) := hb2
      clear hb2
      go_wp2_with fail
      refine (within_calls v 0 1000000000 _).mono ?_
      rintro e w3 ⟨rfl, hb3⟩
      rw [w1]
      have HB3 : Hid (Below w.heap.size w w3) := below_step HB2.out hb3
      clear hb3 HB2
      go_wp2
      go_ret2
      exact ⟨rfl, HB3.out⟩

/-! ### impl.Unhex -/
def impl_Unhex.f (a0 : ByteArray) : Option (ByteArray × Bool) :=
  if a0.size ≤ 1048576 then (match (Lib.Hx.decode a0.data.toList).2 with
    | .ok => if (Lib.Hx.decode a0.data.toList).1.length ≤ 20000 ∧ (⟨(Lib.Hx.encode (Lib.Hx.decode a0.data.toList).1).toArray⟩ : ByteArray).toList = a0.toList then some (⟨(Lib.Hx.decode a0.data.toList).1.toArray⟩, true) else some ((⟨#[]⟩ : ByteArray), false)
    | _ => some ((⟨#[]⟩ : ByteArray), false)) else none
theorem decode_len (l : List UInt8) : 2 * (Lib.Hx.decode l).1.length ≤ l.length := by
  match l with
  | [] => rw [Lib.Hx.decode_nil]; simp
  | [c] =>
    rw [Lib.Hx.decode_one]
    split <;> simp
  | p :: q :: t =>
    have := decode_len t
    rw [Lib.Hx.decode_two]
    split
    · simp
    · split
      · simp
      · simp only [List.length_cons]; omega
set_option maxHeartbeats 1000000 in
theorem impl_Unhex.calls (a0 : ByteArray) (r1 : ByteArray) (r2 : Bool) (w : World) (hG : Glob w) (h : impl_Unhex.f a0 = some (r1, r2)) :
    Calls Tryd.prog 73 #[.string a0] w fun e w' => e = .returned (.tuple #[.string r1, .bool r2]) ∧ Below w.heap.size w w' := by
  unfold impl_Unhex.f at h
  by_cases hb : a0.size ≤ 1048576
  case neg => rw [if_neg hb] at h; cases h
  rw [if_pos hb] at h
  obtain ⟨te, pe, hev⟩ := hG.hexl
  have hl := decode_len a0.data.toList
  have hl0 : a0.data.toList.length = a0.size := by simp
  have C := Tryd.hex_DecodeString a0 w (.iface te pe) hev (by omega)
  generalize Lib.Hx.decode a0.data.toList = D at h hl C
  obtain ⟨out, fl⟩ := D
  simp only at h hl C
  cases fl with
  | bad c =>
    simp only [Option.some.injEq, Prod.mk.injEq] at h
    obtain ⟨rfl, rfl⟩ := h
    go_enter Tryd.func73, Tryd.ntmps73
    go_wp2_with fail
    refine C.mono ?_
    rintro e w2 ⟨rfl, hrow, hb2⟩
    have HB2 : Hid (Below w.heap.size w w2) := hb2
    clear hb2 hrow
    simp only [Lib.Hx.errVal]
    go_wp2
    go_ret2
    exact ⟨rfl, HB2.out⟩
  | odd =>
    simp only [Option.some.injEq, Prod.mk.injEq] at h
    obtain ⟨rfl, rfl⟩ := h
    go_enter Tryd.func73, Tryd.ntmps73
    go_wp2_with fail
    refine C.mono ?_
    rintro e w2 ⟨rfl, hrow, hb2⟩
    have HB2 : Hid (Below w.heap.size w w2) := hb2
    clear hb2 hrow
    simp only [Lib.Hx.errVal]
    go_wp2
    go_ret2
    exact ⟨rfl, HB2.out⟩
  | ok =>
    simp only at h
    by_cases hn : out.length ≤ 20000
    · have n1 : decide ((20000 : Int) < (out.length : Int)) = false := decide_eq_false (by omega)
      have n2 : ((out.length : Int) > 20000) = False := eq_false (by omega)
      by_cases hq : (⟨(Lib.Hx.encode out).toArray⟩ : ByteArray).toList = a0.toList
      · rw [if_pos ⟨hn, hq⟩] at h
        simp only [Option.some.injEq, Prod.mk.injEq] at h
        obtain ⟨rfl, rfl⟩ := h
        have q1 : ((⟨(Lib.Hx.encode out).toArray⟩ : ByteArray).toList == a0.toList) = true := beq_iff_eq.mpr hq
        have q2 : ((⟨(Lib.Hx.encode out).toArray⟩ : ByteArray).toList != a0.toList) = false := by rw [bne, q1]; rfl
        clear hq
        generalize htt : (⟨(Lib.Hx.encode out).toArray⟩ : ByteArray) = t at q1 q2
        go_enter Tryd.func73, Tryd.ntmps73
        go_wp2_with fail
        refine C.mono ?_
        rintro e w2 ⟨rfl, hrow, hb2⟩
        have HB2 : Hid (Below w.heap.size w w2) := hb2
        have HC : Hid (∀ i (h : i < out.length), w2.cell? ⟨w.heap.size, 0 + i, none⟩ = some (.int .u8 ((out[i]'h).toNat : Int))) := fun i hi => by
          rw [Nat.zero_add, hrow.cell (by omega)]
          unfold Lib.Hx.rowP
          rw [if_pos ⟨by omega, by simpa using hi⟩]
          simp [hi]
        have HS : Hid (w.heap.size < w2.heap.size) := by
          obtain ⟨c, h1, _⟩ := hrow
          exact (Array.getElem?_eq_some_iff.1 h1).1
        clear hb2 hrow
        simp only [Lib.Hx.errVal]
        go_wp2_with fail
        refine (Tryd.hex_EncodeToString_bytes w.heap.size 0 _ out _ HC.out HS.out (by omega)).mono ?_
        rintro e w3 ⟨rfl, hb3⟩
        have hs : (⟨out.toArray⟩ : ByteArray).size = out.length := by simp [ByteArray.size]
        have kc : ∀ cap, (convert 59 9 (.slice (some ⟨w.heap.size, 0, none⟩) out.length cap)).run Tryd.prog w3 = .ok (.string ⟨out.toArray⟩) w3 := fun cap => by
          have := Lib.run_convert_whole (P := Tryd.prog) w3 59 5 9 Tryd.underlying59 Tryd.underlying5 Tryd.underlying9 w.heap.size 0 (⟨out.toArray⟩ : ByteArray) (fun i hi => by
            have hi' : i < out.length := by rw [← hs]; exact hi
            have e1 := HC.out i hi'
            rw [hb3.cell (World.block_lt_of_cell? _ _ e1), e1]
            rfl) cap
          rw [hs] at this
          exact this
        have HB3 : Hid (Below w.heap.size w w3) := below_step HB2.out hb3
        clear hb3 HB2
        rw [htt]
        go_wp2
        go_ret2
        exact ⟨rfl, HB3.out⟩
      · rw [if_neg (fun e => hq e.2)] at h
        simp only [Option.some.injEq, Prod.mk.injEq] at h
        obtain ⟨rfl, rfl⟩ := h
        have q1 : ((⟨(Lib.Hx.encode out).toArray⟩ : ByteArray).toList == a0.toList) = false := beq_eq_false_iff_ne.mpr hq
        have q2 : ((⟨(Lib.Hx.encode out).toArray⟩ : ByteArray).toList != a0.toList) = true := by rw [bne, q1]; rfl
        clear hq
        generalize htt : (⟨(Lib.Hx.encode out).toArray⟩ : ByteArray) = t at q1 q2
        go_enter Tryd.func73, Tryd.ntmps73
        go_wp2_with fail
        refine C.mono ?_
        rintro e w2 ⟨rfl, hrow, hb2⟩
        have HB2 : Hid (Below w.heap.size w w2) := hb2
        have HC : Hid (∀ i (h : i < out.length), w2.cell? ⟨w.heap.size, 0 + i, none⟩ = some (.int .u8 ((out[i]'h).toNat : Int))) := fun i hi => by
          rw [Nat.zero_add, hrow.cell (by omega)]
          unfold Lib.Hx.rowP
          rw [if_pos ⟨by omega, by simpa using hi⟩]
          simp [hi]
        have HS : Hid (w.heap.size < w2.heap.size) := by
          obtain ⟨c, h1, _⟩ := hrow
          exact (Array.getElem?_eq_some_iff.1 h1).1
        clear hb2 hrow
        simp only [Lib.Hx.errVal]
        go_wp2_with fail
        refine (Tryd.hex_EncodeToString_bytes w.heap.size 0 _ out _ HC.out HS.out (by omega)).mono ?_
        rintro e w3 ⟨rfl, hb3⟩
        have HB3 : Hid (Below w.heap.size w w3) := below_step HB2.out hb3
        clear hb3 HB2
        rw [htt]
        go_wp2
        go_ret2
        exact ⟨rfl, HB3.out⟩
    · rw [if_neg (fun e => hn e.1)] at h
      simp only [Option.some.injEq, Prod.mk.injEq] at h
      obtain ⟨rfl, rfl⟩ := h
      have n1 : decide ((20000 : Int) < (out.length : Int)) = true := decide_eq_true (by omega)
      have n2 : ((out.length : Int) > 20000) = True := eq_true (by omega)
      go_enter Tryd.func73, Tryd.ntmps73
      go_wp2_with fail
      refine C.mono ?_
      rintro e w2 ⟨rfl, hrow, hb2⟩
      have HB2 : Hid (Below w.heap.size w w2) := hb2
      clear hb2 hrow
      simp only [Lib.Hx.errVal]
      go_wp2
      go_ret2
      exact ⟨rfl, HB2.out⟩

/-! ### strings.Split, slices.Equal -/
theorem fresh_strings (W : World) (xs : List ByteArray) (hm : xs.length ≤ 9223372036854775807) :
    Kd.R Kd.string 9 (W.alloc (.cells (xs.map Value.string).toArray 9)) W.heap.size (fun _ => True) (.slice (some ⟨W.heap.size, 0, none⟩) xs.length xs.length) xs := by
  refine ⟨fun _ _ => trivial, OwnRow.lit W W.heap.size ⟨by simp [Kd.string, Kd.scalar], fun j p hj => ?_⟩ (Nat.le_refl _) hm⟩
  show ((xs.map Value.string).drop (j * 1)).take 1 = [Value.string p]
  obtain ⟨h1, h2⟩ := List.getElem?_eq_some_iff.1 hj
  rw [Nat.mul_one, List.drop_eq_getElem_cons (by simpa using h1)]
  simp [h2]
def strings_Split.f (a0 : ByteArray) (a1 : ByteArray) : Option (List ByteArray) := if a0.size < 4294967281 ∧ 1 ≤ a1.size then some (Lib.splitB a1 0 (Lib.countB a0 a1) a0) else none
theorem strings_Split.calls (a0 : ByteArray) (a1 : ByteArray) (r : List ByteArray) (w : World) (hG : Glob w) (h : strings_Split.f a0 a1 = some r) :
    Calls Tryd.prog 75 #[.string a0, .string a1] w fun e w' => ∃ v0_ : Value, e = .returned (v0_) ∧ Kd.R Kd.string 9 w' w.heap.size (fun _ => True) v0_ r ∧ Below w.heap.size w w' := by
  unfold strings_Split.f at h
  by_cases hb : a0.size < 4294967281 ∧ 1 ≤ a1.size
  case neg => rw [if_neg hb] at h; cases h
  rw [if_pos hb] at h
  obtain rfl := Option.some.inj h
  obtain ⟨m, hm⟩ := hG.maxl
  refine (Tryd.strings_Split a0 a1 m w hb.1 hm hb.2).mono ?_
  rintro e w' ⟨rfl, rfl⟩
  have hl := Lib.splitB_all a1 hb.2 0 (Lib.countB a0 a1) a0 rfl
  have hc := Lib.countB_le a1 hb.2 a0.size a0 (Nat.le_refl _)
  refine ⟨_, rfl, ?_, below_alloc (Below.refl _ _) _⟩
  rw [← hl]
  exact fresh_strings w _ (by omega)
theorem cells_of_C {w : World} {A : Option Addr} {xs : List ByteArray} (h : Kd.C Kd.string w A xs.length xs) (hn : xs ≠ []) :
    ∃ b o, A = some ⟨b, o, none⟩ ∧ ∀ (j : Nat) y, xs[j]? = some y → w.cell? ⟨b, o + j, none⟩ = some (.string y) := by
  have hp : 0 < xs.length := by
    cases xs with
    | nil => exact absurd rfl hn
    | cons _ _ => simp
  obtain ⟨⟨b, o, s⟩, rfl, hcl⟩ := h.2.2 hp
  have cells : ∀ (j : Nat) y, xs[j]? = some y → w.cell? (Go.Addr.add ⟨b, o, s⟩ j) = some (.string y) := fun j y hj => by
    obtain ⟨c, _, hk, hcell⟩ := hcl j y hj
    have hk' : c = [.string y] := hk
    subst hk'
    have := hcell 0 (.string y) rfl
    have e : j * (Kd.string).sz + 0 = j := by simp [Kd.string, Kd.scalar]
    rw [e] at this
    exact this
  have h0 := cells 0 xs[0] (List.getElem?_eq_getElem hp)
  have hs : s = none := by
    cases s with
    | none => rfl
    | some q =>
      exfalso
      unfold World.cell? Go.Addr.add at h0
      simp at h0
      split at h0 <;> simp at h0
  subst hs
  refine ⟨b, o, rfl, fun j y hj => ?_⟩
  have := cells j y hj
  unfold Go.Addr.add at this
  by_cases hj0 : j = 0
  · subst hj0; simpa using this
  · rw [if_neg hj0] at this; exact this
theorem below_drewN' (w : World) (q : Nat) : Below w.heap.size w (w.drewN q) := pw_below_drewN (Below.refl _ _) q
def slices_Equal_string_string.f (l0 : List ByteArray) (l1 : List ByteArray) : Option (Bool) := some (decide (l0 = l1))
theorem slices_Equal_string_string.calls (A0 : Option Addr) (c0 : Nat) (l0 : List ByteArray) (A1 : Option Addr) (c1 : Nat) (l1 : List ByteArray) (r : Bool) (w : World) (hr0 : Kd.C Kd.string w A0 l0.length l0) (hc0 : l0.length ≤ c0) (hr1 : Kd.C Kd.string w A1 l1.length l1) (hc1 : l1.length ≤ c1) (h : slices_Equal_string_string.f l0 l1 = some r) :
    Calls Tryd.prog 74 #[.slice A0 l0.length c0, .slice A1 l1.length c1] w fun e w' => e = .returned (.bool r) ∧ Below w.heap.size w w' := by
  obtain rfl := Option.some.inj h
  by_cases h0 : l0 = []
  · subst h0
    refine (Tryd.slices_Equal_string_empty A0 A1 c0 l1.length c1 w hr1.2.1).mono ?_
    rintro e w' ⟨rfl, rfl⟩
    refine ⟨?_, Below.refl _ _⟩
    congr 2
    cases l1 <;> simp
  obtain ⟨b0, o0, rfl, k0⟩ := cells_of_C hr0 h0
  by_cases h1 : l1 = []
  · subst h1
    have hl : l0.length ≠ 0 := fun e => h0 (List.length_eq_zero_iff.1 e)
    have e1 : ((l0.length : Int) == 0) = false := beq_eq_false_iff_ne.mpr (by omega)
    have e2 : ((l0.length : Int) != 0) = true := by rw [bne, e1]; rfl
    rw [show decide (l0 = []) = false from decide_eq_false h0, List.length_nil]
    generalize l0.length = n at e1 e2
    clear k0 hr0 hr1 hc0 hc1 h0 hl
    go_enter Tryd.func74, Tryd.ntmps74
    go_wp2
    go_ret
    exact ⟨rfl, by first | exact Below.refl _ _ | (repeat (first | exact Below.refl _ _ | apply pw_below_drewN | apply below_drew1))⟩
  obtain ⟨b1, o1, rfl, k1⟩ := cells_of_C hr1 h1
  refine (Tryd.slices_Equal_string b0 o0 l0.length c0 b1 o1 l1.length c1 l0 l1 w (Nat.le_refl _) (Nat.le_refl _) hr0.2.1 hr1.2.1 (fun j hj => by rw [k0 j _ (List.getElem?_eq_getElem hj)]; simp [hj]) (fun j hj => by rw [k1 j _ (List.getElem?_eq_getElem hj)]; simp [hj])).mono ?_
  rintro e w' ⟨rfl, q, rfl⟩
  refine ⟨?_, below_drewN' w q⟩
  rw [List.take_length, List.take_length]


/-! ### spec.l31Told -/
def spec_l31Told.f (a0_0 : Int) (a0_1 : ByteArray) (a0_2 : ByteArray) (a0_3 : Int) (a0_4 : Int) (a0_5 : ByteArray) : Option (Int × ByteArray × ByteArray × Int × Int × ByteArray) := if a0_0 = 5 then (some (a0_0, a0_1, a0_2, 0, 0, (⟨#[]⟩ : ByteArray))) else (if a0_0 = 6 then (some (a0_0, a0_1, (⟨#[]⟩ : ByteArray), a0_3, a0_4, (⟨#[]⟩ : ByteArray))) else (if a0_0 = 7 then (some (a0_0, a0_1, (⟨#[]⟩ : ByteArray), a0_3, 0, a0_5)) else (if a0_0 = 8 then (some (a0_0, a0_1, (⟨#[]⟩ : ByteArray), 0, a0_4, (⟨#[]⟩ : ByteArray))) else (some (a0_0, a0_1, (⟨#[]⟩ : ByteArray), 0, 0, (⟨#[]⟩ : ByteArray))))))
set_option maxHeartbeats 1000000 in
theorem spec_l31Told.calls (a0_0 : Int) (a0_1 : ByteArray) (a0_2 : ByteArray) (a0_3 : Int) (a0_4 : Int) (a0_5 : ByteArray) (r1 : Int) (r2 : ByteArray) (r3 : ByteArray) (r4 : Int) (r5 : Int) (r6 : ByteArray) (w : World) (h : spec_l31Told.f a0_0 a0_1 a0_2 a0_3 a0_4 a0_5 = some (r1, r2, r3, r4, r5, r6)) :
    Calls Tryd.prog 47 #[.agg #[.int .i64 a0_0, .string a0_1, .string a0_2, .int .i64 a0_3, .int .i64 a0_4, .string a0_5]] w fun e w' => e = .returned (.agg #[.int .i64 r1, .string r2, .string r3, .int .i64 r4, .int .i64 r5, .string r6]) ∧ Below w.heap.size w w' := by
  have hu := Tryd.underlying26
  unfold spec_l31Told.f at h
  by_cases h5 : a0_0 = 5
  · rw [if_pos h5] at h
    simp only [Option.some.injEq, Prod.mk.injEq] at h
    obtain ⟨rfl, rfl, rfl, rfl, rfl, rfl⟩ := h
    have b5 : (a0_0 == 5) = true := by simpa using h5
    clear h5
    go_enter Tryd.func47, Tryd.ntmps47
    go_wp2
    refine bodyPost_ret (v := .agg #[.int .i64 a0_0, .string a0_1, .string a0_2, .int .i64 0, .int .i64 0, .string (⟨#[]⟩ : ByteArray)]) (by simp [results, Tryd.results47, go_sem]) rfl ⟨rfl, ?_⟩
    repeat (first | exact Below.refl _ _ | apply below_alloc | apply pw_below_drewN | apply below_drew1 | refine Below.setCell ?_ (by simp) _)
  rw [if_neg h5] at h
  have b5 : (a0_0 == 5) = false := by simpa using h5
  clear h5
  by_cases h6 : a0_0 = 6
  · rw [if_pos h6] at h
    simp only [Option.some.injEq, Prod.mk.injEq] at h
    obtain ⟨rfl, rfl, rfl, rfl, rfl, rfl⟩ := h
    have b6 : (a0_0 == 6) = true := by simpa using h6
    clear h6
    go_enter Tryd.func47, Tryd.ntmps47
    go_wp2
    refine bodyPost_ret (v := .agg #[.int .i64 a0_0, .string a0_1, .string (⟨#[]⟩ : ByteArray), .int .i64 a0_3, .int .i64 a0_4, .string (⟨#[]⟩ : ByteArray)]) (by simp [results, Tryd.results47, go_sem]) rfl ⟨rfl, ?_⟩
    repeat (first | exact Below.refl _ _ | apply below_alloc | apply pw_below_drewN | apply below_drew1 | refine Below.setCell ?_ (by simp) _)
  rw [if_neg h6] at h
  have b6 : (a0_0 == 6) = false := by simpa using h6
  clear h6
  by_cases h7 : a0_0 = 7
  · rw [if_pos h7] at h
    simp only [Option.some.injEq, Prod.mk.injEq] at h
    obtain ⟨rfl, rfl, rfl, rfl, rfl, rfl⟩ := h
    have b7 : (a0_0 == 7) = true := by simpa using h7
    clear h7
    go_enter Tryd.func47, Tryd.ntmps47
    go_wp2
    refine bodyPost_ret (v := .agg #[.int .i64 a0_0, .string a0_1, .string (⟨#[]⟩ : ByteArray), .int .i64 a0_3, .int .i64 0, .string a0_5]) (by simp [results, Tryd.results47, go_sem]) rfl ⟨rfl, ?_⟩
    repeat (first | exact Below.refl _ _ | apply below_alloc | apply pw_below_drewN | apply below_drew1 | refine Below.setCell ?_ (by simp) _)
  rw [if_neg h7] at h
  have b7 : (a0_0 == 7) = false := by simpa using h7
  clear h7
  by_cases h8 : a0_0 = 8
  · rw [if_pos h8] at h
    simp only [Option.some.injEq, Prod.mk.injEq] at h
    obtain ⟨rfl, rfl, rfl, rfl, rfl, rfl⟩ := h
    have b8 : (a0_0 == 8) = true := by simpa using h8
    clear h8
    go_enter Tryd.func47, Tryd.ntmps47
    go_wp2
    refine bodyPost_ret (v := .agg #[.int .i64 a0_0, .string a0_1, .string (⟨#[]⟩ : ByteArray), .int .i64 0, .int .i64 a0_4, .string (⟨#[]⟩ : ByteArray)]) (by simp [results, Tryd.results47, go_sem]) rfl ⟨rfl, ?_⟩
    repeat (first | exact Below.refl _ _ | apply below_alloc | apply pw_below_drewN | apply below_drew1 | refine Below.setCell ?_ (by simp) _)
  rw [if_neg h8] at h
  have b8 : (a0_0 == 8) = false := by simpa using h8
  clear h8
  simp only [Option.some.injEq, Prod.mk.injEq] at h
  obtain ⟨rfl, rfl, rfl, rfl, rfl, rfl⟩ := h
  go_enter Tryd.func47, Tryd.ntmps47
  go_wp2
  refine bodyPost_ret (v := .agg #[.int .i64 a0_0, .string a0_1, .string (⟨#[]⟩ : ByteArray), .int .i64 0, .int .i64 0, .string (⟨#[]⟩ : ByteArray)]) (by simp [results, Tryd.results47, go_sem]) rfl ⟨rfl, ?_⟩
  repeat (first | exact Below.refl _ _ | apply below_alloc | apply pw_below_drewN | apply below_drew1 | refine Below.setCell ?_ (by simp) _)

/-! ### a compare with the zero Ask, partly reckoned -/
theorem zask_t {y z : ByteArray} {a b : Int} (c : (!((0 : Int) == 0) || (!((⟨#[]⟩ : ByteArray).toList == ([] : List UInt8)) || (!(y.toList == ([] : List UInt8)) || (!(a == 0) || (!(b == 0) || (!(z.toList == ([] : List UInt8)))))))) = true)
    (h9 : (!y.toList.isEmpty) = false ∧ (!a == 0) = false ∧ (!b == 0) = false ∧ (!z.toList.isEmpty) = false) : False := by
  have e9 : (⟨#[]⟩ : ByteArray).toList = [] := (ByteArray.toList_eq _).trans rfl
  simp only [e9] at c
  simp at c h9
  simp_all
theorem zask_f {y z : ByteArray} {a b : Int} (c : (!((0 : Int) == 0) || (!((⟨#[]⟩ : ByteArray).toList == ([] : List UInt8)) || (!(y.toList == ([] : List UInt8)) || (!(a == 0) || (!(b == 0) || (!(z.toList == ([] : List UInt8)))))))) = false)
    (h9 : (!y.toList.isEmpty) = true ∨ (!a == 0) = true ∨ (!b == 0) = true ∨ (!z.toList.isEmpty) = true) : False := by
  have e9 : (⟨#[]⟩ : ByteArray).toList = [] := (ByteArray.toList_eq _).trans rfl
  simp only [e9] at c
  simp at c h9
  simp_all
theorem fall_n {x y z : ByteArray} {k t a o l : Int} {b : Bool} (c : (k == 3 && (t == 0 && ((a == 0 && (x.toList == ([] : List UInt8) && (y.toList == ([] : List UInt8) && (o == 0 && (l == 0 && (z.toList == ([] : List UInt8)))))))))) = b)
    (e : (k == 3) = true) : (t == 0 && (a == 0 && (x.toList.isEmpty && (y.toList.isEmpty && (o == 0 && (l == 0 && z.toList.isEmpty)))))) = b := by
  have q : ∀ l : List UInt8, (l == ([] : List UInt8)) = l.isEmpty := fun l => by cases l <;> rfl
  rw [e, Bool.true_and] at c
  simp only [q] at c
  exact c

end Go.Proofs.YtggfonljcbmjmaaDoor.PFnExactReadAsk
