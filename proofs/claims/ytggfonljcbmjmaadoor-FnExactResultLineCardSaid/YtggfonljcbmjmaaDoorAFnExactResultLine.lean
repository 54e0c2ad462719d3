import Derived.Test.YtggfonljcbmjmaaDoorPFnExactResultLinex0
import Derived.Test.YtggfonljcbmjmaaDoorShelfRes
import Derived.Lib.ConvBytes
import Derived.Lib.LaidTab
import Derived.WalkKit
import Derived.Sort.Grow
namespace Go.Proofs.YtggfonljcbmjmaaDoor.PFnExactResultLine
open Go.RowKit Go.Proofs.YtggfonljcbmjmaaDoorW.PrintWords Go.Proofs.YtggfonljcbmjmaaDoorW.PrintLast Go.Proofs.YtggfonljcbmjmaaDoorW.PrintMore
set_option linter.unusedVariables false
set_option linter.unusedSimpArgs false
set_option linter.unusedSectionVars false

def msk (n m : Nat) : Array Bool := (List.replicate m true ++ List.replicate (n - m) false).toArray

/-! ### what the contracts of the library ask of the world: the table of powers of ten -/
def Glob (w : World) : Prop := Lib.TabIs Tryd.prog w "internal/strconv.uint64pow10" .u64 Lib.pow10Tab
theorem Glob.below {w w' : World} (h : Glob w) (hb : Below w.heap.size w w') : Glob w' := by
  unfold Glob Lib.TabIs World.var? at h ⊢
  have hgn : Tryd.prog.globalNamed "internal/strconv.uint64pow10" = some 6 := by kernel_rfl
  rw [hgn] at h ⊢
  simp only [Option.bind_some] at h ⊢
  have hlt : 6 < w.heap.size := by
    rcases Nat.lt_or_ge 6 w.heap.size with h' | h'
    · exact h'
    · rw [Array.getElem?_eq_none h'] at h; cases h
  rw [hb.block _ hlt]
  exact h

/-! ### strconv.Itoa -/
def strconv_Itoa.f (a0 : Int) : Option (ByteArray) := if -9223372036854775808 ≤ a0 ∧ a0 ≤ 9223372036854775807 then some ⟨(Lib.itoa a0).toArray⟩ else none
theorem below_growN (w : World) (k : Nat) (os : Array Obj) : Below w.heap.size w (Go.Sort.grow (w.drewN k) os) :=
  ⟨rfl, rfl, rfl, by rw [Go.Sort.size_grow]; exact Nat.le_add_right _ _, fun j hj => Go.Sort.heap_grow_old (w.drewN k) os hj⟩
theorem strconv_Itoa.calls (a0 : Int) (r : ByteArray) (w : World) (hG : Glob w) (h : strconv_Itoa.f a0 = some r) :
    Calls Tryd.prog 90 #[.int .i64 a0] w fun e w' => e = .returned (.string r) ∧ Below w.heap.size w w' := by
  unfold strconv_Itoa.f at h
  by_cases hb : -9223372036854775808 ≤ a0 ∧ a0 ≤ 9223372036854775807
  · rw [if_pos hb] at h
    obtain rfl := Option.some.inj h
    refine (Tryd.strconv_Itoa a0 hb.1 hb.2 w hG).mono ?_
    rintro e w' ⟨rfl, k, os, rfl⟩
    exact ⟨rfl, below_growN w k os⟩
  · rw [if_neg hb] at h
    cases h


/-! ### impl.Hex -/
def impl_Hex.f (a0 : ByteArray) : Option (ByteArray × Bool) := if a0.size ≤ 1048576 then (if a0.size ≤ 20000 then some (⟨(Lib.Hx.encode a0.data.toList).toArray⟩, true) else some (⟨#[]⟩, false)) else none
theorem below_bytesWorld (w : World) (e : TypeId) (s : ByteArray) : Below w.heap.size w (Lib.bytesWorld w e s) :=
  ⟨rfl, rfl, rfl, by rw [Lib.bytesWorld_size]; omega, fun k hk => Lib.bytesWorld_at_old w e s k hk⟩
set_option maxHeartbeats 1000000 in
theorem impl_Hex.calls (a0 : ByteArray) (r1 : ByteArray) (r2 : Bool) (w : World) (h : impl_Hex.f a0 = some (r1, r2)) :
    Calls Tryd.prog 91 #[.string a0] w fun e w' => e = .returned (.tuple #[.string r1, .bool r2]) ∧ Below w.heap.size w w' := by
  unfold impl_Hex.f at h
  by_cases hb : a0.size ≤ 1048576
  case neg => rw [if_neg hb] at h; cases h
  rw [if_pos hb] at h
  by_cases hs : a0.size ≤ 20000
  · rw [if_pos hs] at h
    injection h with h
    injection h with h1 h2
    subst h1; subst h2
    have hgt : decide (20000 < (a0.size : Int)) = false := by simp; omega
    have hx : Hid (Lib.bytesOf (a0.data.toList.map fun b => (b.toNat : Int)) = a0.data.toList) := by
      unfold Hid Lib.bytesOf
      rw [List.map_map]
      conv => rhs; rw [← List.map_id a0.data.toList]
      apply List.map_congr_left
      intro b _
      simp
    have kc := fun W => Lib.run_convert_string_bytes (P := Tryd.prog) W 9 59 5 a0 Tryd.underlying9 Tryd.underlying59 Tryd.underlying5
    have HB : Hid (Below w.heap.size w (Lib.bytesWorld w 5 a0)) := below_bytesWorld w _ a0
    have HS : Hid (w.heap.size < (Lib.bytesWorld w 5 a0).heap.size) := by unfold Hid; rw [Lib.bytesWorld_size]; omega
    have HC : Hid (∀ i, i < a0.size → (Lib.bytesWorld w 5 a0).cell? ⟨w.heap.size, 0 + i, none⟩ = some (.int .u8 ((a0.data.toList.map fun b => (b.toNat : Int)).getD i 0))) := fun i hi => by
      rw [Nat.zero_add, Lib.bytesWorld_cell w _ a0 i hi]
      have hl : i < a0.data.toList.length := by simpa using hi
      simp [List.getD_eq_getElem?_getD, hi]
    have HR : Hid (∀ i, i < a0.size → 0 ≤ (a0.data.toList.map fun b => (b.toNat : Int)).getD i 0 ∧ (a0.data.toList.map fun b => (b.toNat : Int)).getD i 0 < 256) := fun i hi => by
      have hl : i < a0.data.toList.length := by simpa using hi
      rw [List.getD_eq_getElem?_getD, List.getElem?_map, List.getElem?_eq_getElem hl]
      have := (a0.data.toList[i]).toNat_lt
      simp only [Option.map_some, Option.getD_some]
      omega
    clear hgt
    have hgt : ((a0.size : Int) > 20000) = False := by simp; omega
    have hgt2 : decide ((20000 : Int) < (a0.size : Int)) = false := by simp; omega
    go_enter Tryd.func91, Tryd.ntmps91
    go_wp2_with fail
    refine (Tryd.hex_EncodeToString w.heap.size 0 a0.size _ (a0.data.toList.map fun b => (b.toNat : Int)) _ (by simp) HR.out HC.out HS.out (by omega)).mono ?_
    rintro e w' ⟨rfl, hb2⟩
    have HB2 : Hid (Below (Lib.bytesWorld w 5 a0).heap.size (Lib.bytesWorld w 5 a0) w') := hb2
    clear hb2
    go_wp2
    go_ret2
    exact ⟨by first | rfl | (rw [hx.out]; rfl), HB.out.trans (HB2.out.mono (Nat.le_of_lt HS.out))⟩
  · rw [if_neg hs] at h
    injection h with h
    injection h with h1 h2
    subst h1; subst h2
    have hgt2 : decide ((20000 : Int) < (a0.size : Int)) = true := by simp; omega
    go_enter Tryd.func91, Tryd.ntmps91
    go_wp2
    go_ret2
    exact ⟨rfl, Below.refl _ _⟩

/-! ### strings.Join -/
def strings_Join.f (l0 : List ByteArray) (a1 : ByteArray) : Option (ByteArray) :=
  if l0.length ≤ 140737488355328 ∧ (Lib.join (l0.map (·.data.toList)) a1.data.toList).length ≤ 140737488355328 then some ⟨(Lib.join (l0.map (·.data.toList)) a1.data.toList).toArray⟩ else none
theorem strings_Join.calls (A0 : Option Addr) (c0 : Nat) (l0 : List ByteArray) (a1 : ByteArray) (r : ByteArray) (w : World) (hr0 : Kd.C Kd.string w A0 l0.length l0) (hc0 : l0.length ≤ c0) (h : strings_Join.f l0 a1 = some r) :
    Calls Tryd.prog 61 #[.slice A0 l0.length c0, .string a1] w fun e w' => e = .returned (.string r) ∧ Below w.heap.size w w' := by
  unfold strings_Join.f at h
  by_cases hc : l0.length ≤ 140737488355328 ∧ (Lib.join (l0.map (·.data.toList)) a1.data.toList).length ≤ 140737488355328
  case neg => rw [if_neg hc] at h; cases h
  rw [if_pos hc] at h
  obtain rfl := Option.some.inj h
  cases l0 with
  | nil =>
    refine (Tryd.strings_Join_none A0 c0 a1 w).mono ?_
    rintro e w' ⟨rfl, rfl⟩
    exact ⟨rfl, Below.refl _ _⟩
  | cons x t =>
    obtain ⟨⟨b, o, s⟩, rfl, hcl⟩ := hr0.2.2 (by simp)
    have cells : ∀ (j : Nat) y, (x :: t)[j]? = some y → w.cell? (Go.Addr.add ⟨b, o, s⟩ j) = some (.string y) := fun j y hj => by
      obtain ⟨c, _, hk, hcell⟩ := hcl j y hj
      have hk' : c = [.string y] := hk
      subst hk'
      have := hcell 0 (.string y) rfl
      have e : j * (Kd.string).sz + 0 = j := by simp [Kd.string, Kd.scalar]
      rw [e] at this
      exact this
    have h0 := cells 0 x rfl
    have hs : s = none := by
      cases s with
      | none => rfl
      | some q =>
        exfalso
        unfold World.cell? Go.Addr.add at h0
        simp at h0
        split at h0 <;> simp at h0
    subst hs
    have cells' : ∀ (j : Nat) y, (x :: t)[j]? = some y → w.cell? ⟨b, o + j, none⟩ = some (.string y) := fun j y hj => by
      have := cells j y hj
      unfold Go.Addr.add at this
      by_cases hj0 : j = 0
      · subst hj0; simpa using this
      · rw [if_neg hj0] at this; exact this
    have hb : b < w.heap.size := World.block_lt_of_cell? _ _ (cells' 0 x rfl)
    exact Tryd.strings_Join b o c0 (x :: t) a1 w cells' hb hc.1 hc0 hc.2

/-! ### slices.Grow of nothing -/
def slices_Grow_string_string.f (l0 : List ByteArray) (a1 : Int) : Option (List ByteArray) := if l0 = [] ∧ 0 ≤ a1 ∧ a1 ≤ 8000000000000 then some [] else none
theorem slices_Grow_string_string.calls (A0 : Option Addr) (c0 : Nat) (l0 : List ByteArray) (a1 : Int) (r : List ByteArray) (w : World) (hz : A0 = none ∧ c0 = 0) (hr0 : Kd.C Kd.string w A0 l0.length l0) (hc0 : l0.length ≤ c0) (h : slices_Grow_string_string.f l0 a1 = some r) :
    Calls Tryd.prog 95 #[.slice A0 l0.length c0, .int .i64 a1] w fun e w' => ∃ v0_ : Value, e = .returned (v0_) ∧ Kd.R Kd.string 9 w' w.heap.size (fun _ => True) v0_ r ∧ Below w.heap.size w w' := by
  obtain ⟨rfl, rfl⟩ := hz
  unfold slices_Grow_string_string.f at h
  by_cases hc : l0 = [] ∧ 0 ≤ a1 ∧ a1 ≤ 8000000000000
  case neg => rw [if_neg hc] at h; cases h
  rw [if_pos hc] at h
  obtain ⟨rfl, h0, h1⟩ := hc
  obtain rfl := Option.some.inj h
  clear hr0 hc0 h
  have b0 : (a1 < 0) = False := eq_false (by omega)
  have hw : wrap64 a1 = a1 := by unfold wrap64; omega
  rw [List.length_nil]
  by_cases hp : a1 > 0
  · have b1 : (0 < a1) = True := eq_true hp
    go_enter Tryd.func95, Tryd.ntmps95
    go_wp2_with (first | ((with_reducible refine gate_builtin (b := .append) (xs := #[.tmp 20, .tmp 21]) rfl ?_); at_builtin; refine Kd.R_append_zeros Kd.string (w0 := w) w.heap.size rfl (.tmp 20) (.tmp 21) 37 3 9 (.string ⟨#[]⟩) 16 rfl Tryd.underlying37 Tryd.underlying3 (show (Tryd.prog.info? 9).map (fun i => (i.zero, i.size, i.bytes)) = some (some (.string ⟨#[]⟩), 1, 16) by kernel_rfl) rfl (by decide) (by omega) (.slice none 0 0) [] (⟨#[]⟩ : ByteArray) a1 (fun _ => True) rfl rfl ?aZ ?aF ?aO h0 ?aB ?aS ?aL ?_; (case aZ => exact rfl); (case aF => exact (fun _ _ => trivial)); (case aO => exact Kd.R_nil _ _ _ _ _); (case aB => repeat (first | exact Below.refl _ _ | apply below_alloc | apply pw_below_drewN | apply below_drew1)); (case aS => exact below_size (by repeat (first | exact Below.refl _ _ | apply below_alloc | apply pw_below_drewN | apply below_drew1))); (case aL => simp; omega); intro v1 w1 ho hb hg hat; obtain ⟨A1, c1, e1⟩ := Kd.R_slice ho; subst e1))
    refine bodyPost_ret (v := .slice A1 0 c1) (by simp [results, Tryd.results95, go_sem]) rfl ⟨_, rfl, ?_, ?_⟩
    · (with_reducible repeat (first | apply Kd.R_alloc | apply Kd.R_drewN | apply Kd.R_drew))
      exact Kd.R_take ho (Nat.zero_le _)
    · repeat (first | exact hb | apply below_alloc | apply pw_below_drewN | apply below_drew1)
  · have b1 : (0 < a1) = False := eq_false hp
    go_enter Tryd.func95, Tryd.ntmps95
    go_wp2
    refine bodyPost_ret (v := .slice none 0 0) (by simp [results, Tryd.results95, go_sem]) rfl ⟨_, rfl, Kd.R_nil _ _ _ _ _, ?_⟩
    repeat (first | exact Below.refl _ _ | apply below_alloc | apply pw_below_drewN | apply below_drew1)

end Go.Proofs.YtggfonljcbmjmaaDoor.PFnExactResultLine
