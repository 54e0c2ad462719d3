import Derived.Test.YtggfonljcbmjmaaDoorPFnExactActLinex0
import Derived.Test.YtggfonljcbmjmaaDoorShelfAsk
import Derived.Lib.ConvBytes
import Derived.Lib.LaidTab
import Derived.WalkKit
import Derived.Sort.Grow
namespace Go.Proofs.YtggfonljcbmjmaaDoor.PFnExactActLine
open Go.RowKit Go.Proofs.YtggfonljcbmjmaaDoorW.PrintWords Go.Proofs.YtggfonljcbmjmaaDoorW.PrintLast Go.Proofs.YtggfonljcbmjmaaDoorW.PrintMore
set_option linter.unusedVariables false
set_option linter.unusedSimpArgs false
set_option linter.unusedSectionVars false

def msk (n m : Nat) : Array Bool := (List.replicate m true ++ List.replicate (n - m) false).toArray

/-! ### what the contracts of the library ask of the world: the table of powers of ten -/
def Glob (w : World) : Prop := Lib.TabIs Tryd.prog w "internal/strconv.uint64pow10" .u64 Lib.pow10Tab
theorem Glob.below {w w' : World} (h : Glob w) (hb : Below w.heap.size w w') : Glob w' := by
  unfold Glob Lib.TabIs World.var? at h ⊢
  have hgn : Tryd.prog.globalNamed "internal/strconv.uint64pow10" = some 6 := by kernel_rfl
  rw [hgn] at h ⊢
  simp only [Option.bind_some] at h ⊢
  have hlt : 6 < w.heap.size := by
    rcases Nat.lt_or_ge 6 w.heap.size with h' | h'
    · exact h'
    · rw [Array.getElem?_eq_none h'] at h; cases h
  rw [hb.block _ hlt]
  exact h

/-! ### strconv.Itoa -/
def strconv_Itoa.f (a0 : Int) : Option (ByteArray) := if -9223372036854775808 ≤ a0 ∧ a0 ≤ 9223372036854775807 then some ⟨(Lib.itoa a0).toArray⟩ else none
theorem below_growN (w : World) (k : Nat) (os : Array Obj) : Below w.heap.size w (Go.Sort.grow (w.drewN k) os) :=
  ⟨rfl, rfl, rfl, by rw [Go.Sort.size_grow]; exact Nat.le_add_right _ _, fun j hj => Go.Sort.heap_grow_old (w.drewN k) os hj⟩
theorem strconv_Itoa.calls (a0 : Int) (r : ByteArray) (w : World) (hG : Glob w) (h : strconv_Itoa.f a0 = some r) :
    Calls Tryd.prog 90 #[.int .i64 a0] w fun e w' => e = .returned (.string r) ∧ Below w.heap.size w w' := by
  unfold strconv_Itoa.f at h
  by_cases hb : -9223372036854775808 ≤ a0 ∧ a0 ≤ 9223372036854775807
  · rw [if_pos hb] at h
    obtain rfl := Option.some.inj h
    refine (Tryd.strconv_Itoa a0 hb.1 hb.2 w hG).mono ?_
    rintro e w' ⟨rfl, k, os, rfl⟩
    exact ⟨rfl, below_growN w k os⟩
  · rw [if_neg hb] at h
    cases h


/-! ### impl.Hex -/
def impl_Hex.f (a0 : ByteArray) : Option (ByteArray × Bool) := if a0.size ≤ 1048576 then (if a0.size ≤ 20000 then some (⟨(Lib.Hx.encode a0.data.toList).toArray⟩, true) else some (⟨#[]⟩, false)) else none
theorem below_bytesWorld (w : World) (e : TypeId) (s : ByteArray) : Below w.heap.size w (Lib.bytesWorld w e s) :=
  ⟨rfl, rfl, rfl, by rw [Lib.bytesWorld_size]; omega, fun k hk => Lib.bytesWorld_at_old w e s k hk⟩
set_option maxHeartbeats 1000000 in
theorem impl_Hex.calls (a0 : ByteArray) (r1 : ByteArray) (r2 : Bool) (w : World) (h : impl_Hex.f a0 = some (r1, r2)) :
    Calls Tryd.prog 91 #[.string a0] w fun e w' => e = .returned (.tuple #[.string r1, .bool r2]) ∧ Below w.heap.size w w' := by
  unfold impl_Hex.f at h
  by_cases hb : a0.size ≤ 1048576
  case neg => rw [if_neg hb] at h; cases h
  rw [if_pos hb] at h
  by_cases hs : a0.size ≤ 20000
  · rw [if_pos hs] at h
    injection h with h
    injection h with h1 h2
    subst h1; subst h2
    have hgt : decide (20000 < (a0.size : Int)) = false := by simp; omega
    have hx : Hid (Lib.bytesOf (a0.data.toList.map fun b => (b.toNat : Int)) = a0.data.toList) := by
      unfold Hid Lib.bytesOf
      rw [List.map_map]
      conv => rhs; rw [← List.map_id a0.data.toList]
      apply List.map_congr_left
      intro b _
      simp
    have kc := fun W => Lib.run_convert_string_bytes (P := Tryd.prog) W 9 59 5 a0 Tryd.underlying9 Tryd.underlying59 Tryd.underlying5
    have HB : Hid (Below w.heap.size w (Lib.bytesWorld w 5 a0)) := below_bytesWorld w _ a0
    have HS : Hid (w.heap.size < (Lib.bytesWorld w 5 a0).heap.size) := by unfold Hid; rw [Lib.bytesWorld_size]; omega
    have HC : Hid (∀ i, i < a0.size → (Lib.bytesWorld w 5 a0).cell? ⟨w.heap.size, 0 + i, none⟩ = some (.int .u8 ((a0.data.toList.map fun b => (b.toNat : Int)).getD i 0))) := fun i hi => by
      rw [Nat.zero_add, Lib.bytesWorld_cell w _ a0 i hi]
      have hl : i < a0.data.toList.length := by simpa using hi
      simp [List.getD_eq_getElem?_getD, hi]
    have HR : Hid (∀ i, i < a0.size → 0 ≤ (a0.data.toList.map fun b => (b.toNat : Int)).getD i 0 ∧ (a0.data.toList.map fun b => (b.toNat : Int)).getD i 0 < 256) := fun i hi => by
      have hl : i < a0.data.toList.length := by simpa using hi
      rw [List.getD_eq_getElem?_getD, List.getElem?_map, List.getElem?_eq_getElem hl]
      have := (a0.data.toList[i]).toNat_lt
      simp only [Option.map_some, Option.getD_some]
      omega
    clear hgt
    have hgt : ((a0.size : Int) > 20000) = False := by simp; omega
    have hgt2 : decide ((20000 : Int) < (a0.size : Int)) = false := by simp; omega
    go_enter Tryd.func91, Tryd.ntmps91
    go_wp2_with fail
    refine (Tryd.hex_EncodeToString w.heap.size 0 a0.size _ (a0.data.toList.map fun b => (b.toNat : Int)) _ (by simp) HR.out HC.out HS.out (by omega)).mono ?_
    rintro e w' ⟨rfl, hb2⟩
    have HB2 : Hid (Below (Lib.bytesWorld w 5 a0).heap.size (Lib.bytesWorld w 5 a0) w') := hb2
    clear hb2
    go_wp2
    go_ret2
    exact ⟨by first | rfl | (rw [hx.out]; rfl), HB.out.trans (HB2.out.mono (Nat.le_of_lt HS.out))⟩
  · rw [if_neg hs] at h
    injection h with h
    injection h with h1 h2
    subst h1; subst h2
    have hgt2 : decide ((20000 : Int) < (a0.size : Int)) = true := by simp; omega
    go_enter Tryd.func91, Tryd.ntmps91
    go_wp2
    go_ret2
    exact ⟨rfl, Below.refl _ _⟩


/-! ### spec.l31Told -/
def spec_l31Told.f (a0_0 : Int) (a0_1 : ByteArray) (a0_2 : ByteArray) (a0_3 : Int) (a0_4 : Int) (a0_5 : ByteArray) : Option (Int × ByteArray × ByteArray × Int × Int × ByteArray) := if a0_0 = 5 then (some (a0_0, a0_1, a0_2, 0, 0, (⟨#[]⟩ : ByteArray))) else (if a0_0 = 6 then (some (a0_0, a0_1, (⟨#[]⟩ : ByteArray), a0_3, a0_4, (⟨#[]⟩ : ByteArray))) else (if a0_0 = 7 then (some (a0_0, a0_1, (⟨#[]⟩ : ByteArray), a0_3, 0, a0_5)) else (if a0_0 = 8 then (some (a0_0, a0_1, (⟨#[]⟩ : ByteArray), 0, a0_4, (⟨#[]⟩ : ByteArray))) else (some (a0_0, a0_1, (⟨#[]⟩ : ByteArray), 0, 0, (⟨#[]⟩ : ByteArray))))))
set_option maxHeartbeats 1000000 in
theorem spec_l31Told.calls (a0_0 : Int) (a0_1 : ByteArray) (a0_2 : ByteArray) (a0_3 : Int) (a0_4 : Int) (a0_5 : ByteArray) (r1 : Int) (r2 : ByteArray) (r3 : ByteArray) (r4 : Int) (r5 : Int) (r6 : ByteArray) (w : World) (h : spec_l31Told.f a0_0 a0_1 a0_2 a0_3 a0_4 a0_5 = some (r1, r2, r3, r4, r5, r6)) :
    Calls Tryd.prog 47 #[.agg #[.int .i64 a0_0, .string a0_1, .string a0_2, .int .i64 a0_3, .int .i64 a0_4, .string a0_5]] w fun e w' => e = .returned (.agg #[.int .i64 r1, .string r2, .string r3, .int .i64 r4, .int .i64 r5, .string r6]) ∧ Below w.heap.size w w' := by
  have hu := Tryd.underlying26
  unfold spec_l31Told.f at h
  by_cases h5 : a0_0 = 5
  · rw [if_pos h5] at h
    simp only [Option.some.injEq, Prod.mk.injEq] at h
    obtain ⟨rfl, rfl, rfl, rfl, rfl, rfl⟩ := h
    have b5 : (a0_0 == 5) = true := by simpa using h5
    clear h5
    go_enter Tryd.func47, Tryd.ntmps47
    go_wp2
    refine bodyPost_ret (v := .agg #[.int .i64 a0_0, .string a0_1, .string a0_2, .int .i64 0, .int .i64 0, .string (⟨#[]⟩ : ByteArray)]) (by simp [results, Tryd.results47, go_sem]) rfl ⟨rfl, ?_⟩
    repeat (first | exact Below.refl _ _ | apply below_alloc | apply pw_below_drewN | apply below_drew1 | refine Below.setCell ?_ (by simp) _)
  rw [if_neg h5] at h
  have b5 : (a0_0 == 5) = false := by simpa using h5
  clear h5
  by_cases h6 : a0_0 = 6
  · rw [if_pos h6] at h
    simp only [Option.some.injEq, Prod.mk.injEq] at h
    obtain ⟨rfl, rfl, rfl, rfl, rfl, rfl⟩ := h
    have b6 : (a0_0 == 6) = true := by simpa using h6
    clear h6
    go_enter Tryd.func47, Tryd.ntmps47
    go_wp2
    refine bodyPost_ret (v := .agg #[.int .i64 a0_0, .string a0_1, .string (⟨#[]⟩ : ByteArray), .int .i64 a0_3, .int .i64 a0_4, .string (⟨#[]⟩ : ByteArray)]) (by simp [results, Tryd.results47, go_sem]) rfl ⟨rfl, ?_⟩
    repeat (first | exact Below.refl _ _ | apply below_alloc | apply pw_below_drewN | apply below_drew1 | refine Below.setCell ?_ (by simp) _)
  rw [if_neg h6] at h
  have b6 : (a0_0 == 6) = false := by simpa using h6
  clear h6
  by_cases h7 : a0_0 = 7
  · rw [if_pos h7] at h
    simp only [Option.some.injEq, Prod.mk.injEq] at h
    obtain ⟨rfl, rfl, rfl, rfl, rfl, rfl⟩ := h
    have b7 : (a0_0 == 7) = true := by simpa using h7
    clear h7
    go_enter Tryd.func47, Tryd.ntmps47
    go_wp2
    refine bodyPost_ret (v := .agg #[.int .i64 a0_0, .string a0_1, .string (⟨#[]⟩ : ByteArray), .int .i64 a0_3, .int .i64 0, .string a0_5]) (by simp [results, Tryd.results47, go_sem]) rfl ⟨rfl, ?_⟩
    repeat (first | exact Below.refl _ _ | apply below_alloc | apply pw_below_drewN | apply below_drew1 | refine Below.setCell ?_ (by simp) _)
  rw [if_neg h7] at h
  have b7 : (a0_0 == 7) = false := by simpa using h7
  clear h7
  by_cases h8 : a0_0 = 8
  · rw [if_pos h8] at h
    simp only [Option.some.injEq, Prod.mk.injEq] at h
    obtain ⟨rfl, rfl, rfl, rfl, rfl, rfl⟩ := h
    have b8 : (a0_0 == 8) = true := by simpa using h8
    clear h8
    go_enter Tryd.func47, Tryd.ntmps47
    go_wp2
    refine bodyPost_ret (v := .agg #[.int .i64 a0_0, .string a0_1, .string (⟨#[]⟩ : ByteArray), .int .i64 0, .int .i64 a0_4, .string (⟨#[]⟩ : ByteArray)]) (by simp [results, Tryd.results47, go_sem]) rfl ⟨rfl, ?_⟩
    repeat (first | exact Below.refl _ _ | apply below_alloc | apply pw_below_drewN | apply below_drew1 | refine Below.setCell ?_ (by simp) _)
  rw [if_neg h8] at h
  have b8 : (a0_0 == 8) = false := by simpa using h8
  clear h8
  simp only [Option.some.injEq, Prod.mk.injEq] at h
  obtain ⟨rfl, rfl, rfl, rfl, rfl, rfl⟩ := h
  go_enter Tryd.func47, Tryd.ntmps47
  go_wp2
  refine bodyPost_ret (v := .agg #[.int .i64 a0_0, .string a0_1, .string (⟨#[]⟩ : ByteArray), .int .i64 0, .int .i64 0, .string (⟨#[]⟩ : ByteArray)]) (by simp [results, Tryd.results47, go_sem]) rfl ⟨rfl, ?_⟩
  repeat (first | exact Below.refl _ _ | apply below_alloc | apply pw_below_drewN | apply below_drew1 | refine Below.setCell ?_ (by simp) _)

/-! ### a compare with the zero Ask, partly reckoned -/
theorem zask_t {y z : ByteArray} {a b : Int} (c : (!((0 : Int) == 0) || (!((⟨#[]⟩ : ByteArray).toList == ([] : List UInt8)) || (!(y.toList == ([] : List UInt8)) || (!(a == 0) || (!(b == 0) || (!(z.toList == ([] : List UInt8)))))))) = true)
    (h9 : (!y.toList.isEmpty) = false ∧ (!a == 0) = false ∧ (!b == 0) = false ∧ (!z.toList.isEmpty) = false) : False := by
  have e9 : (⟨#[]⟩ : ByteArray).toList = [] := (ByteArray.toList_eq _).trans rfl
  simp only [e9] at c
  simp at c h9
  simp_all
theorem zask_f {y z : ByteArray} {a b : Int} (c : (!((0 : Int) == 0) || (!((⟨#[]⟩ : ByteArray).toList == ([] : List UInt8)) || (!(y.toList == ([] : List UInt8)) || (!(a == 0) || (!(b == 0) || (!(z.toList == ([] : List UInt8)))))))) = false)
    (h9 : (!y.toList.isEmpty) = true ∨ (!a == 0) = true ∨ (!b == 0) = true ∨ (!z.toList.isEmpty) = true) : False := by
  have e9 : (⟨#[]⟩ : ByteArray).toList = [] := (ByteArray.toList_eq _).trans rfl
  simp only [e9] at c
  simp at c h9
  simp_all
theorem fall_n {x y z : ByteArray} {k t a o l : Int} {b : Bool} (c : (k == 3 && (t == 0 && ((a == 0 && (x.toList == ([] : List UInt8) && (y.toList == ([] : List UInt8) && (o == 0 && (l == 0 && (z.toList == ([] : List UInt8)))))))))) = b)
    (e : (k == 3) = true) : (t == 0 && (a == 0 && (x.toList.isEmpty && (y.toList.isEmpty && (o == 0 && (l == 0 && z.toList.isEmpty)))))) = b := by
  have q : ∀ l : List UInt8, (l == ([] : List UInt8)) = l.isEmpty := fun l => by cases l <;> rfl
  rw [e, Bool.true_and] at c
  simp only [q] at c
  exact c

end Go.Proofs.YtggfonljcbmjmaaDoor.PFnExactActLine
