import Derived.Test.YtggfonljcbmjmaaDoorPFnExactReadAskx11
import Derived.Test.YtggfonljcbmjmaaDoorOFnExactReadAsk
import Derived.Lib.HexFns
import Derived.Lib.ItoaLen
import Derived.Lib.ItoaMem
import Derived.Lib.LazyBuf
import Derived.Lib.Strings
import Derived.Lib.AtoiTie
import Derived.Lib.ShelfFacts
import Derived.Lib.SplitLaws
namespace Go.Proofs.YtggfonljcbmjmaaDoor.PFnExactReadAsk
open Go.RowKit Go.Proofs.YtggfonljcbmjmaaDoorW.PrintWords Go.Proofs.YtggfonljcbmjmaaDoorW.PrintLast Go.Proofs.YtggfonljcbmjmaaDoorW.PrintMore
set_option linter.unusedVariables false
set_option linter.unusedSimpArgs false
set_option linter.unusedSectionVars false

/-! ### numbers, bytes, rounds -/
theorem wf_i64 {n : Int} (h : (Lit.int .i64 n).wf = true) : -9223372036854775808 ≤ n ∧ n ≤ 9223372036854775807 := by
  simpa [Lit.wf, IntKind.min, IntKind.max, IntKind.signed, IntKind.bits] using h
theorem wrap_id {n : Int} (h0 : -9223372036854775808 ≤ n) (h1 : n ≤ 9223372036854775807) : wrap64 n = n := by unfold wrap64; omega
/-- A string by its bytes. -/
def Sb (l : List UInt8) : ByteArray := ⟨l.toArray⟩
theorem Sb_toList (l : List UInt8) : (Sb l).toList = l := by rw [Lib.toList_data]; rfl
theorem Sb_size (l : List UInt8) : (Sb l).size = l.length := by simp [Sb, ByteArray.size]
theorem Sb_append (a b : List UInt8) : Sb a ++ Sb b = Sb (a ++ b) := by
  apply ByteArray.ext
  simp [Sb]
theorem Sb_of (s : ByteArray) : s = Sb s.data.toList := by
  cases s with
  | mk d => simp [Sb]
theorem toList_inj {a b : ByteArray} : a.toList = b.toList ↔ a = b := by
  constructor
  · intro h
    rw [Lib.toList_data, Lib.toList_data] at h
    cases a; cases b
    congr 1
    exact Array.toList_inj.1 h
  · rintro rfl; rfl
theorem toList_nil {a : ByteArray} : a.toList = ([] : List UInt8) ↔ a = Sb [] := by
  have h := @toList_inj a (Sb [])
  rw [Sb_toList] at h
  exact h
theorem beq_toList (a b : ByteArray) : (a.toList == b.toList) = decide (a = b) := by
  rw [Bool.eq_iff_iff, beq_iff_eq, decide_eq_true_iff]
  exact toList_inj
theorem Ev_now {α : Type} {g : Nat → Option α} {r : α} (h : ∀ k, g k = some r) : Ev g r := ⟨0, fun k _ => h k⟩
theorem Ev_pos {α : Type} {c : Prop} {i : Decidable c} {f g : Nat → Option α} {r : α} (hc : c) (h : Ev f r) : Ev (fun k => @ite _ c i (f k) (g k)) r := by
  simp only [if_pos hc]; exact h
theorem Ev_neg {α : Type} {c : Prop} {i : Decidable c} {f g : Nat → Option α} {r : α} (hc : ¬ c) (h : Ev g r) : Ev (fun k => @ite _ c i (f k) (g k)) r := by
  simp only [if_neg hc]; exact h
theorem Ev_const {α β : Type} {x : Option α} {a : α} {f : Nat → α → Option β} {r : β} (hx : x = some a) (h : Ev (fun k => f k a) r) : Ev (fun k => x.bind (f k)) r := by
  subst hx; exact h
theorem Ev_ite {α : Type} {c : Prop} {i : Decidable c} {f g : Nat → Option α} {a b : α} (h : c → Ev f a) (h' : ¬ c → Ev g b) : Ev (fun k => @ite _ c i (f k) (g k)) (if c then a else b) := by
  by_cases hc : c
  · simp only [if_pos hc]; exact h hc
  · simp only [if_neg hc]; exact h' hc
theorem Ev_eq {α : Type} {g : Nat → Option α} {r r' : α} (h : Ev g r) (e : r = r') : Ev g r' := e ▸ h
theorem bt_Sb (l : List UInt8) (i : Nat) (h : i < l.length) : bt (Sb l) i = (l[i].toNat : Int) := by
  unfold bt
  rw [dif_pos (by rw [Sb_size]; simpa using h)]
  rfl
theorem bt_at' (s : ByteArray) (i : Nat) (h : i < s.size) : bt s i = ((s.data.toList[i]'(by simpa using h)).toNat : Int) := by
  unfold bt
  rw [dif_pos (by simpa using h)]
  rfl

/-! ### between two bounds -/
theorem spec_in (a b c : Int) : spec_l01In.f a b c = some (decide (b ≤ a ∧ a ≤ c)) := by
  unfold spec_l01In.f
  by_cases h : a ≥ b
  · rw [if_pos h]; congr 1; simp [h]
  · rw [if_neg h]; congr 1; simp; omega

/-! ### the reference's numerals -/
theorem spec_fig (d : Int) (h0 : 0 ≤ d) (h : d < 10) : spec_l01Figure.f d = some (48 + d) := by
  unfold spec_l01Figure.f
  rw [if_pos h, wrap_id (by omega) (by omega)]
  congr 1; omega
theorem spec_fig_hex (d : Nat) (h : d < 16) : spec_l01Figure.f d = some ((Lib.Hx.digit d).toNat : Int) := by
  unfold spec_l01Figure.f
  have : d = 0 ∨ d = 1 ∨ d = 2 ∨ d = 3 ∨ d = 4 ∨ d = 5 ∨ d = 6 ∨ d = 7 ∨ d = 8 ∨ d = 9 ∨ d = 10 ∨ d = 11 ∨ d = 12 ∨ d = 13 ∨ d = 14 ∨ d = 15 := by omega
  rcases this with rfl | rfl | rfl | rfl | rfl | rfl | rfl | rfl | rfl | rfl | rfl | rfl | rfl | rfl | rfl | rfl <;> decide +kernel
theorem nums_one (d : Nat) (h : d < 10) : strOfNums ([48 + (d : Int)] : List Int) = Sb [UInt8.ofNat (48 + d)] := by
  have e : (48 + (d : Int)).toNat = 48 + d := by omega
  unfold strOfNums Sb
  simp [e]
theorem dec_loop (below : Bool) (u : Nat) : ∀ (x : Int) (acc : ByteArray), (x = u ∨ x = -(u : Int)) → 0 < u → u ≤ 9223372036854775808 → (u = 9223372036854775808 → x < 0) → acc.size + Lib.nDigits u ≤ 1000 →
    Ev (fun k => spec_Decimal.l0 k x below acc) (if below = true then (⟨#[45]⟩ : ByteArray) ++ (Sb (Lib.decDigits u) ++ acc) else Sb (Lib.decDigits u) ++ acc) := by
  induction u using Nat.strongRecOn with
  | _ u ih =>
  intro x acc hx hu hm hm2 hs
  refine Ev.step (fun k => by rw [spec_Decimal.l0]) ?_
  refine Ev_neg (by omega) ?_
  have hd : Int.tmod x 10 = (if x < 0 then -((u % 10 : Nat) : Int) else ((u % 10 : Nat) : Int)) := by
    rcases hx with rfl | rfl
    · rw [if_neg (by omega), Int.tmod_eq_emod_of_nonneg (by omega)]; omega
    · rw [if_pos (by omega), Int.neg_tmod, Int.tmod_eq_emod_of_nonneg (by omega)]; omega
  have hq : Int.tdiv x 10 = (if x < 0 then -((u / 10 : Nat) : Int) else ((u / 10 : Nat) : Int)) := by
    rcases hx with rfl | rfl
    · rw [if_neg (by omega), Int.tdiv_eq_ediv_of_nonneg (by omega)]; omega
    · rw [if_pos (by omega), Int.neg_tdiv, Int.tdiv_eq_ediv_of_nonneg (by omega)]; omega
  have hw : wrap64 (Int.tdiv x 10) = Int.tdiv x 10 := wrap_id (by rw [hq]; split <;> omega) (by rw [hq]; split <;> omega)
  have hlen : (Sb [UInt8.ofNat (48 + u % 10)]).size = 1 := by rw [Sb_size]; rfl
  have hstep : Ev (fun k => spec_Decimal.l0 k (wrap64 (Int.tdiv x 10)) below (Sb [UInt8.ofNat (48 + u % 10)] ++ acc)) (if below = true then (⟨#[45]⟩ : ByteArray) ++ (Sb (Lib.decDigits u) ++ acc) else Sb (Lib.decDigits u) ++ acc) := by
    by_cases h10 : u < 10
    · have hz : wrap64 (Int.tdiv x 10) = 0 := by rw [hw, hq]; split <;> omega
      rw [hz]
      have hdd : Lib.decDigits u = [UInt8.ofNat (48 + u % 10)] := by rw [Lib.decDigits_one h10, Nat.mod_eq_of_lt h10]
      rw [hdd]
      refine Ev.step (fun k => by rw [spec_Decimal.l0]) ?_
      refine Ev_pos rfl ?_
      have hsz : (Sb [UInt8.ofNat (48 + u % 10)] ++ acc).size ≤ 1001 := by rw [ByteArray.size_append, hlen]; omega
      cases below with
      | true =>
        refine Ev_pos rfl ?_
        refine Ev_pos (by omega) ?_
        exact Ev_now fun k => rfl
      | false => exact Ev_neg (by simp) (Ev_now fun k => rfl)
    · have hdd : Lib.decDigits u = Lib.decDigits (u / 10) ++ [UInt8.ofNat (48 + u % 10)] := by rw [Lib.decDigits, dif_neg h10]
      have hnd := Lib.nDigits_big h10
      rw [hdd, ← Sb_append, ByteArray.append_assoc]
      refine ih (u / 10) (by omega) _ _ ?_ (by omega) (by omega) (by omega) (by rw [ByteArray.size_append, hlen]; omega)
      rw [hw, hq]
      split
      · exact .inr rfl
      · exact .inl rfl
  have h1 : ∀ t : Int, t = ((u % 10 : Nat) : Int) → spec_l01Figure.f t = some (48 + ((u % 10 : Nat) : Int)) := fun t ht => by
    rw [ht]; exact spec_fig _ (by omega) (by omega)
  have hsum : (Sb [UInt8.ofNat (48 + u % 10)]).size + acc.size ≤ 9223372036854775807 := by rw [hlen]; omega
  by_cases hneg : Int.tmod x 10 < 0
  · refine Ev_pos hneg ?_
    have ht : wrap64 (-(Int.tmod x 10)) = ((u % 10 : Nat) : Int) := by
      rw [wrap_id (by omega) (by rw [hd]; split <;> omega), hd]; rw [hd] at hneg; split at hneg <;> split <;> omega
    refine Ev_const (h1 _ ht) ?_
    refine Ev_const rfl ?_
    rw [nums_one _ (by omega)]
    exact Ev_pos hsum hstep
  · refine Ev_neg hneg ?_
    have ht : Int.tmod x 10 = ((u % 10 : Nat) : Int) := by
      rw [hd]; rw [hd] at hneg; split at hneg <;> split <;> omega
    refine Ev_const (h1 _ ht) ?_
    refine Ev_const rfl ?_
    rw [nums_one _ (by omega)]
    exact Ev_pos hsum hstep
theorem nDigits_le (u : Nat) (h : u ≤ 9223372036854775808) : Lib.nDigits u ≤ 21 := by
  have := Lib.itoa_length_le (-(u : Int)) (by omega) (by omega)
  by_cases h0 : 1 ≤ u
  · rw [Lib.itoa_neg u h0, List.length_cons, Lib.decDigits_length] at this; omega
  · obtain rfl : u = 0 := by omega
    rw [Lib.nDigits_small (by omega)]; omega
theorem spec_dec (n : Int) (h0 : -9223372036854775808 ≤ n) (h1 : n ≤ 9223372036854775807) : Ev (fun k => spec_Decimal.f k n) (Sb (Lib.itoa n)) := by
  unfold spec_Decimal.f
  by_cases hz : n = 0
  · subst hz
    exact Ev_pos rfl (Ev_now fun k => by rw [show (0 : Int) = ((0 : Nat) : Int) from rfl, Lib.itoa_nonneg, Lib.decDigits_one (by omega)]; rfl)
  · refine Ev_neg hz ?_
    refine Ev_eq (dec_loop _ n.natAbs n _ (by omega) (by omega) (by omega) (by omega) ?_) ?_
    · have := nDigits_le n.natAbs (by omega)
      show 0 + _ ≤ _
      omega
    · have he : ∀ l, Sb l ++ (⟨#[]⟩ : ByteArray) = Sb l := fun l => by rw [show (⟨#[]⟩ : ByteArray) = Sb [] from rfl, Sb_append, List.append_nil]
      unfold Lib.itoa
      by_cases hn : n < 0
      · rw [if_pos (by simpa using hn), if_pos hn, he, show (⟨#[45]⟩ : ByteArray) = Sb [45] from rfl, Sb_append]; rfl
      · rw [if_neg (by simpa using hn), if_neg hn, he, show n.natAbs = n.toNat by omega]
theorem dec_size (n : Int) (h0 : -9223372036854775808 ≤ n) (h1 : n ≤ 9223372036854775807) : (Sb (Lib.itoa n)).size ≤ 21 := by
  rw [Sb_size]; exact Lib.itoa_length_le n h0 h1

/-! ### the reference's hexadecimal texts -/
theorem strOf_bytes (l : List UInt8) : strOfNums (l.map fun b => (b.toNat : Int)) = Sb l := by
  unfold strOfNums Sb
  rw [List.map_map]
  congr 2
  conv => rhs; rw [← List.map_id l]
  apply List.map_congr_left
  intro b _
  simp
theorem hex_loop (s : ByteArray) (hs : s.size ≤ 20000) (d : Nat) : ∀ (i : Nat) (acc : List UInt8), i + d = s.size → acc.length = 2 * i →
    Ev (fun k => spec_Hex.l0 k s (acc.map fun b => (b.toNat : Int)) (i : Int)) (Sb (acc ++ Lib.Hx.encode (s.data.toList.drop i)), true) := by
  induction d with
  | zero =>
    intro i acc hi ha
    refine Ev.step (fun k => by rw [spec_Hex.l0]) ?_
    refine Ev_neg (by omega) (Ev_now fun k => ?_)
    rw [List.drop_of_length_le (by simp; omega), strOf_bytes]
    simp [Lib.Hx.encode]
  | succ d ih =>
    intro i acc hi ha
    have hlt : i < s.size := by omega
    have hb := bt_at' s i hlt
    have hget : i < s.data.toList.length := by simpa using hlt
    generalize hv : s.data.toList[i] = v at hb
    have hdrop : s.data.toList.drop i = v :: s.data.toList.drop (i + 1) := by rw [← hv]; exact List.drop_eq_getElem_cons hget
    have hvlt : v.toNat < 256 := v.toNat_lt
    have hw : wrap64 (bt s i) = ((v.toNat : Nat) : Int) := by rw [hb]; exact wrap_id (by omega) (by omega)
    refine Ev.step (fun k => by rw [spec_Hex.l0]) ?_
    refine Ev_pos (by omega) (Ev_pos (by omega) ?_)
    refine Ev_const (a := ((Lib.Hx.digit (v.toNat / 16)).toNat : Int)) ?_ ?_
    · rw [hw, Int.tdiv_eq_ediv_of_nonneg (by omega), wrap_id (by omega) (by omega), ← spec_fig_hex _ (by omega)]; congr 1
    refine Ev_const (a := ((Lib.Hx.digit (v.toNat % 16)).toNat : Int)) ?_ ?_
    · rw [hw, Int.tmod_eq_emod_of_nonneg (by omega), ← spec_fig_hex _ (by omega)]; congr 1
    refine Ev_const rfl ?_
    refine Ev_pos (by simp [ha]; omega) ?_
    rw [show wrap64 ((i : Int) + 1) = ((i + 1 : Nat) : Int) by rw [wrap_id (by omega) (by omega)]; omega]
    have := ih (i + 1) (acc ++ [Lib.Hx.digit (v.toNat / 16), Lib.Hx.digit (v.toNat % 16)]) (by omega) (by simp [ha]; omega)
    rw [hdrop, Lib.Hx.encode_cons]
    simpa using this
def hexB (s : ByteArray) : ByteArray := Sb (Lib.Hx.encode s.data.toList)
theorem spec_hex (s : ByteArray) (hs : s.size ≤ 20000) : Ev (fun k => spec_Hex.f k s) (hexB s, true) := by
  unfold spec_Hex.f
  refine Ev_neg (by omega) ?_
  have := hex_loop s hs s.size 0 [] (by omega) rfl
  simpa [hexB] using this
theorem encode_len (l : List UInt8) : (Lib.Hx.encode l).length = 2 * l.length := by
  induction l with
  | nil => rfl
  | cons a t ih => rw [Lib.Hx.encode_cons, List.length_cons, List.length_cons, ih, List.length_cons]; omega
theorem hexB_size (s : ByteArray) : (hexB s).size = 2 * s.size := by unfold hexB; rw [Sb_size, encode_len, Array.length_toList]; rfl
theorem hexB_nil (s : ByteArray) : (hexB s).toList = ([] : List UInt8) ↔ s.size = 0 := by
  have h := hexB_size s
  rw [toList_nil]
  constructor
  · intro e; rw [e] at h; have : (Sb []).size = 0 := Sb_size []; omega
  · intro e
    have h0 : (hexB s).size = 0 := by omega
    unfold hexB at h0 ⊢
    rw [Sb_size] at h0
    rw [List.length_eq_zero_iff.1 h0]

/-! ### lists of strings: their size, their copy, their compare -/
def sumS (l : List ByteArray) : Nat := (l.map (·.size)).sum
theorem sumS_cons (a : ByteArray) (l : List ByteArray) : sumS (a :: l) = a.size + sumS l := by unfold sumS; simp
theorem sumS_mem {a : ByteArray} {l : List ByteArray} (h : a ∈ l) : a.size ≤ sumS l := by
  induction l with
  | nil => cases h
  | cons b t ih =>
    rw [sumS_cons]
    rcases List.mem_cons.1 h with rfl | h
    · omega
    · have := ih h; omega
theorem rdOf_get (l : List ByteArray) (i : Nat) (h : i < l.length) : rdOf ByteArray.empty l (i : Int) = l[i] := by
  unfold rdOf
  rw [List.getD_eq_getElem?_getD, show ((i : Int)).toNat = i from rfl, List.getElem?_eq_getElem h]
  rfl
theorem sz_strs_loop (l : List ByteArray) (hl : l.length ≤ 1048576) (hs : ∀ b ∈ l, b.size ≤ 9223372036854775807) (d : Nat) : ∀ (i : Nat) (x1 : Int), i + d = l.length → 0 ≤ x1 → x1 ≤ 1048576 →
    ∃ t, Ev (fun k => laws_szStringS.l0 k l x1 (i : Int)) t ∧ (t < 0 ∨ (t ≤ x1 ∧ (sumS (l.drop i) : Int) ≤ x1)) := by
  induction d with
  | zero =>
    intro i x1 hi h0 h1
    refine ⟨x1, Ev.step (fun k => by rw [laws_szStringS.l0]) (Ev_neg (by omega) (Ev_now fun _ => rfl)), .inr ⟨by omega, ?_⟩⟩
    rw [List.drop_eq_nil_of_le (by omega)]
    exact h0
  | succ d ih =>
    intro i x1 hi h0 h1
    have hlt : i < l.length := by omega
    have hb := hs l[i] (List.getElem_mem hlt)
    have e0 := rdOf_get l i hlt
    by_cases hn : x1 - (l[i].size : Int) < 0
    · refine ⟨-1, Ev.step (fun k => by rw [laws_szStringS.l0]) (Ev_pos (by omega) (Ev_pos (by omega) ?_)), .inl (by omega)⟩
      refine Ev_pos ?_ (Ev_now fun _ => rfl)
      rw [e0, wrap_id (by omega) (by omega)]
      exact hn
    · obtain ⟨t, ht, hq⟩ := ih (i + 1) (x1 - (l[i].size : Int)) (by omega) (by omega) (by omega)
      refine ⟨t, Ev.step (fun k => by rw [laws_szStringS.l0]) (Ev_pos (by omega) (Ev_pos (by omega) ?_)), hq.imp_right fun hq => ?_⟩
      · rw [e0, wrap_id (n := x1 - (l[i].size : Int)) (by omega) (by omega), wrap_id (n := (i : Int) + 1) (by omega) (by omega)]
        exact Ev_neg hn ht
      · rw [List.drop_eq_getElem_cons hlt, sumS_cons]
        push_cast
        omega
theorem sz_strs (l : List ByteArray) (hl : l.length ≤ 9223372036854775807) (hs : ∀ b ∈ l, b.size ≤ 9223372036854775807) (a1 : Int) (h0 : 0 ≤ a1) (h1 : a1 ≤ 1048576) :
    ∃ t, Ev (fun k => laws_szStringS.f k l a1) t ∧ (t < 0 ∨ (l.length : Int) + (sumS l : Int) ≤ a1) := by
  unfold laws_szStringS.f
  have e : wrap64 (a1 - (l.length : Int)) = a1 - (l.length : Int) := wrap_id (by omega) (by omega)
  by_cases hn : a1 - (l.length : Int) < 0
  · exact ⟨-1, Ev_pos (by rw [e]; exact hn) (Ev_now fun _ => rfl), .inl (by omega)⟩
  · obtain ⟨t, ht, hq⟩ := sz_strs_loop l (by omega) hs l.length 0 (a1 - (l.length : Int)) (by omega) (by omega) (by omega)
    rw [e]
    refine ⟨t, Ev_neg hn ht, hq.imp_right fun hq => ?_⟩
    rw [List.drop_zero] at hq
    omega
theorem copy_strs_loop (l : List ByteArray) (hl : l.length ≤ 1048576) (d : Nat) : ∀ (i : Nat) (x3 : List ByteArray), i + d = l.length → x3.length = l.length → x3.take i = l.take i →
    Ev (fun k => laws_toStringS.l0 k l x3 (i : Int)) l := by
  induction d with
  | zero =>
    intro i x3 hi h0 h1
    refine Ev.step (fun k => by rw [laws_toStringS.l0]) (Ev_neg (by omega) (Ev_eq (Ev_now fun _ => rfl) ?_))
    rw [List.take_of_length_le (by omega), List.take_of_length_le (by omega)] at h1
    exact h1
  | succ d ih =>
    intro i x3 hi h0 h1
    have hlt : i < l.length := by omega
    refine Ev.step (fun k => by rw [laws_toStringS.l0]) (Ev_pos (by omega) (Ev_pos (by omega) (Ev_pos (by omega) ?_)))
    rw [rdOf_get l i hlt, wrap_id (n := (i : Int) + 1) (by omega) (by omega), show ((i : Int)).toNat = i from rfl]
    refine ih (i + 1) _ (by omega) (by simpa using h0) ?_
    rw [List.take_succ_eq_append_getElem (by simp; omega), List.take_succ_eq_append_getElem hlt, List.take_set_of_le (by omega), h1]
    simp
theorem copy_strs (l : List ByteArray) (hl : l.length ≤ 1048576) : Ev (fun k => laws_toStringS.f k l) l := by
  unfold laws_toStringS.f
  refine Ev_pos (by omega) (Ev_pos (by omega) ?_)
  exact copy_strs_loop l hl l.length 0 _ (by omega) (by simp) rfl
theorem eq_strs_loop (l : List ByteArray) (hl : l.length ≤ 1048576) (d : Nat) : ∀ (i : Nat), i + d = l.length → Ev (fun k => laws_eqStringS.l0 k l l (i : Int)) true := by
  induction d with
  | zero => intro i hi; exact Ev.step (fun k => by rw [laws_eqStringS.l0]) (Ev_neg (by omega) (Ev_now fun _ => rfl))
  | succ d ih =>
    intro i hi
    refine Ev.step (fun k => by rw [laws_eqStringS.l0]) (Ev_pos (by omega) (Ev_pos (by omega) (Ev_pos (by omega) (Ev_pos rfl ?_))))
    rw [wrap_id (n := (i : Int) + 1) (by omega) (by omega)]
    exact ih (i + 1) (by omega)
theorem eq_strs (l : List ByteArray) (hl : l.length ≤ 1048576) : Ev (fun k => laws_eqStringS.f k l l) true := by
  unfold laws_eqStringS.f
  exact Ev_pos rfl (eq_strs_loop l hl l.length 0 (by omega))

/-! ### a path in a line -/
def plainB (s : ByteArray) : Bool := decide (1 ≤ s.size ∧ s.size ≤ 100) && s.data.toList.all fun b => decide (33 ≤ b.toNat ∧ b.toNat ≤ 126)
theorem all_split (l : List UInt8) (p : UInt8 → Bool) (i : Nat) (h : i < l.length) (hp : (l.take i).all p = true) : l.all p = (p l[i] && (l.drop (i + 1)).all p) := by
  have h1 : l = l.take i ++ (l[i] :: l.drop (i + 1)) := by rw [← List.drop_eq_getElem_cons h, List.take_append_drop]
  conv => lhs; rw [h1, List.all_append, hp, List.all_cons]
  simp
theorem take_all (l : List UInt8) (p : UInt8 → Bool) (i : Nat) (h : i < l.length) (hp : (l.take i).all p = true) (hi : p l[i] = true) : (l.take (i + 1)).all p = true := by
  rw [List.take_succ_eq_append_getElem h, List.all_append, hp]; simp [hi]
theorem spec_plain_loop (s : ByteArray) (hs : s.size ≤ 1048576) (d : Nat) : ∀ i : Nat, i + d = s.size → ((s.data.toList.take i).all fun b => decide (33 ≤ b.toNat ∧ b.toNat ≤ 126)) = true →
    Ev (fun k => spec_l31Plain.l0 k s (i : Int)) (plainB s) := by
  induction d with
  | zero =>
    intro i hi hp
    refine Ev.step (fun k => by rw [spec_l31Plain.l0]) ?_
    refine Ev_neg (by omega) (Ev_const (spec_in _ _ _) (Ev_now fun k => ?_))
    rw [List.take_of_length_le (by simp; omega)] at hp
    unfold plainB
    rw [hp, Bool.and_true]
    congr 1
    rw [decide_eq_decide]
    omega
  | succ d ih =>
    intro i hi hp
    have hlt : i < s.size := by omega
    have hb := bt_at' s i hlt
    have hget : i < s.data.toList.length := by simpa using hlt
    have hta := take_all s.data.toList (fun b => decide (33 ≤ b.toNat ∧ b.toNat ≤ 126)) i hget hp
    have hsp := all_split s.data.toList (fun b => decide (33 ≤ b.toNat ∧ b.toNat ≤ 126)) i hget hp
    generalize s.data.toList[i] = v at hb hta hsp
    have hvlt : v.toNat < 256 := v.toNat_lt
    refine Ev.step (fun k => by rw [spec_l31Plain.l0]) ?_
    refine Ev_pos (by omega) (Ev_pos (by omega) (Ev_const (spec_in _ _ _) ?_))
    rw [hb, wrap_id (by omega) (by omega)]
    by_cases hc : 33 ≤ v.toNat ∧ v.toNat ≤ 126
    · refine Ev_pos (by simp; omega) ?_
      rw [show wrap64 ((i : Int) + 1) = ((i + 1 : Nat) : Int) by rw [wrap_id (by omega) (by omega)]; omega]
      exact ih (i + 1) (by omega) (hta (by simpa using hc))
    · refine Ev_neg (by simp; omega) (Ev_now fun k => ?_)
      unfold plainB
      rw [hsp]
      simp only [decide_eq_false hc, Bool.false_and, Bool.and_false]
theorem spec_plain (s : ByteArray) (hs : s.size ≤ 1048576) : Ev (fun k => spec_l31Plain.f k s) (plainB s) := by
  unfold spec_l31Plain.f
  exact spec_plain_loop s hs s.size 0 (by omega) rfl
theorem impl_in (a b c : Int) : impl_within.f a b c = some (decide (b ≤ a ∧ a ≤ c)) := by
  unfold impl_within.f
  by_cases h : a ≥ b
  · rw [if_pos h]; congr 1; simp [h]
  · rw [if_neg h]; congr 1; simp; omega
theorem impl_plain_loop (s : ByteArray) (hs : s.size ≤ 1048576) (d : Nat) : ∀ i : Nat, i + d = s.size → ((s.data.toList.take i).all fun b => decide (33 ≤ b.toNat ∧ b.toNat ≤ 126)) = true →
    Ev (fun k => impl_isLinePath.l0 k s (s.size : Int) (i : Int)) (plainB s) := by
  induction d with
  | zero =>
    intro i hi hp
    refine Ev.step (fun k => by rw [impl_isLinePath.l0]) ?_
    refine Ev_neg (by omega) (Ev_const (impl_in _ _ _) (Ev_now fun k => ?_))
    rw [List.take_of_length_le (by simp; omega)] at hp
    unfold plainB
    rw [hp, Bool.and_true]
    congr 1
    rw [decide_eq_decide]
    omega
  | succ d ih =>
    intro i hi hp
    have hlt : i < s.size := by omega
    have hb := bt_at' s i hlt
    have hget : i < s.data.toList.length := by simpa using hlt
    have hta := take_all s.data.toList (fun b => decide (33 ≤ b.toNat ∧ b.toNat ≤ 126)) i hget hp
    have hsp := all_split s.data.toList (fun b => decide (33 ≤ b.toNat ∧ b.toNat ≤ 126)) i hget hp
    generalize s.data.toList[i] = v at hb hta hsp
    have hf : ¬ (33 ≤ v.toNat ∧ v.toNat ≤ 126) → plainB s = false := fun hc => by
      unfold plainB
      rw [hsp]
      simp only [decide_eq_false hc, Bool.false_and, Bool.and_false]
    refine Ev.step (fun k => by rw [impl_isLinePath.l0]) ?_
    refine Ev_pos (by omega) (Ev_pos (by omega) (Ev_pos (by omega) ?_))
    rw [hb]
    by_cases h1 : (v.toNat : Int) < 33
    · exact Ev_pos h1 (Ev_now fun k => by rw [hf (by omega)])
    refine Ev_neg h1 ?_
    by_cases h2 : (v.toNat : Int) > 126
    · exact Ev_pos h2 (Ev_now fun k => by rw [hf (by omega)])
    refine Ev_neg h2 ?_
    rw [show wrap64 ((i : Int) + 1) = ((i + 1 : Nat) : Int) by rw [wrap_id (by omega) (by omega)]; omega]
    exact ih (i + 1) (by omega) (hta (by simp; omega))
theorem impl_plain (s : ByteArray) (hs : s.size ≤ 1048576) : Ev (fun k => impl_isLinePath.f k s) (plainB s) := by
  unfold impl_isLinePath.f
  exact impl_plain_loop s hs s.size 0 (by omega) rfl
/-! ### the line of an operation -/
def wordsL : List ByteArray := [(⟨#[]⟩ : ByteArray), (⟨#[99, 114, 101, 97, 116, 101]⟩ : ByteArray), (⟨#[109, 107, 100, 105, 114]⟩ : ByteArray), (⟨#[117, 110, 108, 105, 110, 107]⟩ : ByteArray), (⟨#[114, 109, 100, 105, 114]⟩ : ByteArray), (⟨#[114, 101, 110, 97, 109, 101]⟩ : ByteArray), (⟨#[114, 101, 97, 100]⟩ : ByteArray), (⟨#[119, 114, 105, 116, 101]⟩ : ByteArray), (⟨#[116, 114, 117, 110, 99, 97, 116, 101]⟩ : ByteArray), (⟨#[115, 116, 97, 116]⟩ : ByteArray), (⟨#[108, 105, 115, 116]⟩ : ByteArray), (⟨#[115, 121, 110, 99]⟩ : ByteArray)]
theorem word_size (i : Int) : (rdOf ByteArray.empty wordsL i).size ≤ 8 := by
  unfold rdOf
  rw [List.getD_eq_getElem?_getD]
  have h : ∀ x ∈ wordsL, x.size ≤ 8 := by decide
  cases e : wordsL[i.toNat]? with
  | none => decide
  | some x => exact h x (List.mem_of_getElem? e)
def Sp : ByteArray := ⟨#[32]⟩
def decB (n : Int) : ByteArray := Sb (Lib.itoa n)
def dashB (s : ByteArray) : ByteArray := if s.size = 0 then (⟨#[45]⟩ : ByteArray) else hexB s
/-- The line, where there is one. -/
def bodyL (kind : Int) (path dst : ByteArray) (off len : Int) (text : ByteArray) : ByteArray :=
  let b := rdOf ByteArray.empty wordsL kind ++ Sp ++ path
  if kind = 5 then b ++ Sp ++ dst else if kind = 6 then b ++ Sp ++ decB off ++ Sp ++ decB len else if kind = 7 then b ++ Sp ++ decB off ++ Sp ++ dashB text else if kind = 8 then b ++ Sp ++ decB len else b
/-- Is there one? -/
def okL (kind : Int) (path dst : ByteArray) (off len : Int) (text : ByteArray) : Bool :=
  decide (1 ≤ kind ∧ kind ≤ 11) && decide (text.size ≤ 200) && plainB path && (decide (kind ≠ 5) || plainB dst) && decide (0 ≤ off ∧ off ≤ 1000000000) && decide (0 ≤ len ∧ len ≤ 1000000000) &&
    decide ((kind = 5 ∨ dst = Sb []) ∧ (kind = 6 ∨ kind = 7 ∨ off = 0) ∧ (kind = 6 ∨ kind = 8 ∨ len = 0) ∧ (kind = 7 ∨ text = Sb []))
def lineL (kind : Int) (path dst : ByteArray) (off len : Int) (text : ByteArray) : ByteArray := if okL kind path dst off len text = true then bodyL kind path dst off len text else Sb []
theorem impl_dec (n : Int) (h : -9223372036854775808 ≤ n ∧ n ≤ 9223372036854775807) : impl_Decimal.f n = some (decB n) := by
  unfold impl_Decimal.f strconv_Itoa.f
  rw [if_pos h]; rfl
theorem impl_dash (s : ByteArray) (h : s.size ≤ 1048576) : impl_hexOrDash.f s = some (if s.size ≤ 20000 then dashB s else (⟨#[45]⟩ : ByteArray)) := by
  unfold impl_hexOrDash.f impl_Hex.f
  rw [if_pos h]
  by_cases h2 : s.size ≤ 20000
  · rw [if_pos h2, if_pos h2, Option.bind_some]
    show (if (hexB s).toList = ([] : List UInt8) then some (⟨#[45]⟩ : ByteArray) else some (hexB s)) = _
    unfold dashB
    by_cases hz : s.size = 0
    · rw [if_pos ((hexB_nil s).2 hz), if_pos hz]
    · rw [if_neg (fun e => hz ((hexB_nil s).1 e)), if_neg hz]
  · rw [if_neg h2, if_neg h2, Option.bind_some, if_pos (by rw [toList_nil]; rfl)]
theorem impl_ask_end (out : ByteArray) (dst' : ByteArray) (off' len' : Int) (text' : ByteArray) : Ev (fun k => impl_AskLine.j2 k out 0 (⟨#[]⟩ : ByteArray) dst' off' len' text') (if dst' = Sb [] ∧ off' = 0 ∧ len' = 0 ∧ text' = Sb [] then out else Sb []) := by
  refine Ev.step (fun k => by rw [impl_AskLine.j2]) ?_
  have hc : ((!((0 : Int) == 0) || (!((⟨#[]⟩ : ByteArray).toList == ([] : List UInt8)) || (!(dst'.toList == ([] : List UInt8)) || (!(off' == 0) || (!(len' == 0) || (!(text'.toList == ([] : List UInt8)))))))) = true) ↔ ¬ (dst' = Sb [] ∧ off' = 0 ∧ len' = 0 ∧ text' = Sb []) := by
    have hn : ∀ s : ByteArray, (s.toList == ([] : List UInt8)) = decide (s = Sb []) := fun s => by
      have h := beq_toList s (Sb [])
      rw [Sb_toList] at h
      exact h
    rw [hn, hn, hn, show (⟨#[]⟩ : ByteArray) = Sb [] from rfl]
    by_cases h1 : dst' = Sb [] <;> by_cases h2 : off' = 0 <;> by_cases h3 : len' = 0 <;> by_cases h4 : text' = Sb [] <;> simp [h1, h2, h3, h4]
  by_cases h : dst' = Sb [] ∧ off' = 0 ∧ len' = 0 ∧ text' = Sb []
  · rw [if_pos h]; exact Ev_neg (fun e => hc.1 e h) (Ev_now fun _ => rfl)
  · rw [if_neg h]; exact Ev_pos (hc.2 h) (Ev_now fun _ => rfl)
section
variable (kind : Int) (path dst : ByteArray) (off len : Int) (text : ByteArray)
theorem spec_ask_none : Ev (fun k => spec_AskLine.j0 k true kind path dst off len text) (Sb []) := by
  refine Ev.step (fun k => by rw [spec_AskLine.j0]) ?_
  exact Ev_pos rfl (Ev_now fun _ => rfl)
theorem impl_ask_none : Ev (fun k => impl_AskLine.j0 k true kind path dst off len text) (Sb []) := by
  refine Ev.step (fun k => by rw [impl_AskLine.j0]) ?_
  exact Ev_pos rfl (Ev_now fun _ => rfl)
variable (hp : path.size ≤ 1048576) (ht : dst.size ≤ 1048576) (ho : -9223372036854775808 ≤ off ∧ off ≤ 9223372036854775807) (hl : -9223372036854775808 ≤ len ∧ len ≤ 9223372036854775807) (hx : text.size ≤ 1048576)
include hp ht ho hl
theorem spec_ask_body (hk : 1 ≤ kind ∧ kind ≤ 11) (hx2 : text.size ≤ 200) : Ev (fun k => spec_AskLine.j1 k kind path dst off len text) (bodyL kind path dst off len text) := by
  have hw := word_size kind
  have hsp : (⟨#[32]⟩ : ByteArray).size = 1 := rfl
  have hd1 := dec_size off ho.1 ho.2
  have hd2 := dec_size len hl.1 hl.2
  have hh := hexB_size text
  refine Ev.step (fun k => by rw [spec_AskLine.j1]) ?_
  refine Ev_const (a := wordsL) rfl ?_
  refine Ev_pos (by omega) (Ev_pos (by show kind < ((12 : Nat) : Int); omega) (Ev_pos (by omega) (Ev_pos (by simp only [ByteArray.size_append, hsp]; omega) (Ev.step (fun k => by rw [spec_AskLine.j2]) ?_))))
  by_cases k5 : kind = 5
  · refine Ev_pos k5 (Ev_pos (by simp only [ByteArray.size_append, hsp]; omega) (Ev_pos (by simp only [ByteArray.size_append, hsp]; omega) ?_))
    exact Ev_eq (Ev_now fun _ => rfl) (by simp only [bodyL, if_pos k5, Sp])
  refine Ev_neg k5 ?_
  by_cases k6 : kind = 6
  · refine Ev_pos k6 (Ev_pos (by simp only [ByteArray.size_append, hsp]; omega) (Ev.bind (spec_dec off ho.1 ho.2) ?_))
    refine Ev_pos (by simp only [ByteArray.size_append, hsp]; omega) (Ev_pos (by simp only [ByteArray.size_append, hsp]; omega) (Ev.bind (spec_dec len hl.1 hl.2) ?_))
    refine Ev_pos (by simp only [ByteArray.size_append, hsp]; omega) ?_
    exact Ev_eq (Ev_now fun _ => rfl) (by simp only [bodyL, if_neg k5, if_pos k6, Sp, decB])
  refine Ev_neg k6 ?_
  by_cases k7 : kind = 7
  · refine Ev_pos k7 (Ev.bind (spec_hex text (by omega)) ?_)
    by_cases hz : text.size = 0
    · refine Ev_pos ((hexB_nil text).2 hz) (Ev_pos (by simp only [ByteArray.size_append, hsp]; omega) (Ev.bind (spec_dec off ho.1 ho.2) ?_))
      refine Ev_pos (by simp only [ByteArray.size_append, hsp]; omega) (Ev_pos (by simp only [ByteArray.size_append, hsp]; omega) (Ev_pos (by simp only [ByteArray.size_append, hsp]; omega) ?_))
      exact Ev_eq (Ev_now fun _ => rfl) (by simp only [bodyL, if_neg k5, if_neg k6, if_pos k7, Sp, decB, dashB, if_pos hz])
    · refine Ev_neg (fun e => hz ((hexB_nil text).1 e)) (Ev_pos (by simp only [ByteArray.size_append, hsp]; omega) (Ev.bind (spec_dec off ho.1 ho.2) ?_))
      refine Ev_pos (by simp only [ByteArray.size_append, hsp]; omega) (Ev_pos (by simp only [ByteArray.size_append, hsp]; omega) (Ev_pos (by simp only [ByteArray.size_append, hsp]; omega) ?_))
      exact Ev_eq (Ev_now fun _ => rfl) (by simp only [bodyL, if_neg k5, if_neg k6, if_pos k7, Sp, decB, dashB, if_neg hz])
  refine Ev_neg k7 ?_
  by_cases k8 : kind = 8
  · refine Ev_pos k8 (Ev_pos (by simp only [ByteArray.size_append, hsp]; omega) (Ev.bind (spec_dec len hl.1 hl.2) ?_))
    refine Ev_pos (by simp only [ByteArray.size_append, hsp]; omega) ?_
    exact Ev_eq (Ev_now fun _ => rfl) (by simp only [bodyL, if_neg k5, if_neg k6, if_neg k7, if_pos k8, Sp, decB])
  refine Ev_neg k8 ?_
  exact Ev_eq (Ev_now fun _ => rfl) (by simp only [bodyL, if_neg k5, if_neg k6, if_neg k7, if_neg k8, Sp])
omit hp ht ho hl
theorem told_some : spec_l31Told.f kind path dst off len text = some (kind, path, (if kind = 5 then dst else Sb []), (if kind = 6 ∨ kind = 7 then off else 0), (if kind = 6 ∨ kind = 8 then len else 0), (if kind = 7 then text else Sb [])) := by
  unfold spec_l31Told.f
  by_cases k5 : kind = 5
  · subst k5; rfl
  by_cases k6 : kind = 6
  · subst k6; rfl
  by_cases k7 : kind = 7
  · subst k7; rfl
  by_cases k8 : kind = 8
  · subst k8; rfl
  simp only [k5, k6, k7, k8, if_false, or_self]
  rfl
theorem told_ne : ((!(kind == kind) || (!(path.toList == path.toList) || (!((if kind = 5 then dst else Sb []).toList == dst.toList) || (!((if kind = 6 ∨ kind = 7 then off else 0) == off) || (!((if kind = 6 ∨ kind = 8 then len else 0) == len) || (!((if kind = 7 then text else Sb []).toList == text.toList))))))) = true) ↔
    ¬ ((kind = 5 ∨ dst = Sb []) ∧ (kind = 6 ∨ kind = 7 ∨ off = 0) ∧ (kind = 6 ∨ kind = 8 ∨ len = 0) ∧ (kind = 7 ∨ text = Sb [])) := by
  have e1 : (if kind = 5 then dst else Sb []) = dst ↔ (kind = 5 ∨ dst = Sb []) := by
    by_cases h : kind = 5
    · simp [h]
    · simp only [if_neg h, h, false_or]; exact eq_comm
  have e2 : (if kind = 6 ∨ kind = 7 then off else 0) = off ↔ (kind = 6 ∨ kind = 7 ∨ off = 0) := by
    by_cases h : kind = 6 ∨ kind = 7
    · rw [if_pos h]; simp; omega
    · rw [if_neg h]; omega
  have e3 : (if kind = 6 ∨ kind = 8 then len else 0) = len ↔ (kind = 6 ∨ kind = 8 ∨ len = 0) := by
    by_cases h : kind = 6 ∨ kind = 8
    · rw [if_pos h]; simp; omega
    · rw [if_neg h]; omega
  have e4 : (if kind = 7 then text else Sb []) = text ↔ (kind = 7 ∨ text = Sb []) := by
    by_cases h : kind = 7
    · simp [h]
    · simp only [if_neg h, h, false_or]; exact eq_comm
  rw [← e1, ← e2, ← e3, ← e4]
  simp only [beq_toList, Bool.or_eq_true, Bool.not_eq_true', beq_self_eq_true, decide_eq_false_iff_not, beq_eq_false_iff_ne]
  simp only [Bool.true_eq_false, false_or, decide_true, not_true_eq_false, ne_eq]
  by_cases h1 : (if kind = 5 then dst else Sb []) = dst <;> by_cases h2 : (if kind = 6 ∨ kind = 7 then off else 0) = off <;> by_cases h3 : (if kind = 6 ∨ kind = 8 then len else 0) = len <;> by_cases h4 : (if kind = 7 then text else Sb []) = text <;> simp [h1, h2, h3, h4]
include hp ht ho hl hx
theorem spec_ask : Ev (fun k => spec_AskLine.f k kind path dst off len text) (lineL kind path dst off len text) := by
  unfold spec_AskLine.f
  have no : okL kind path dst off len text = false → lineL kind path dst off len text = Sb [] := fun h => by unfold lineL; rw [h]; rfl
  have hok : spec_AskOk.f kind path dst off len text = some (decide (1 ≤ kind ∧ kind ≤ 11) && decide (text.size ≤ 200)) := by
    unfold spec_AskOk.f
    rw [spec_in, Option.bind_some]
    by_cases h : 1 ≤ kind ∧ kind ≤ 11
    · rw [if_pos (by simpa using h), decide_eq_true h]; congr 1; simp; omega
    · rw [if_neg (by simpa using h), decide_eq_false h]; rfl
  refine Ev_const hok ?_
  by_cases hk : 1 ≤ kind ∧ kind ≤ 11
  case neg => exact Ev_neg (by simp [hk]) (Ev_eq (spec_ask_none ..) (no (by unfold okL; simp [hk])).symm)
  by_cases hx2 : text.size ≤ 200
  case neg => exact Ev_neg (by simp [hx2]) (Ev_eq (spec_ask_none ..) (no (by unfold okL; simp [hx2])).symm)
  refine Ev_pos (by simp [hk, hx2]) (Ev_const (told_some ..) ?_)
  by_cases hT : (kind = 5 ∨ dst = Sb []) ∧ (kind = 6 ∨ kind = 7 ∨ off = 0) ∧ (kind = 6 ∨ kind = 8 ∨ len = 0) ∧ (kind = 7 ∨ text = Sb [])
  case neg => exact Ev_pos ((told_ne ..).2 hT) (Ev_eq (spec_ask_none ..) (no (by unfold okL; rw [decide_eq_false hT, Bool.and_false])).symm)
  refine Ev_neg (fun h => (told_ne ..).1 h hT) (Ev.bind (spec_plain path hp) ?_)
  cases hpl : plainB path with
  | false => exact Ev_neg (by simp) (Ev_eq (spec_ask_none ..) (no (by unfold okL; rw [hpl]; simp)).symm)
  | true =>
    refine Ev_pos rfl ?_
    have nums : Ev (fun k => (spec_l01In.f off 0 1000000000).bind fun t143 => (if t143 = true then ((spec_l01In.f len 0 1000000000).bind fun t144 => (spec_AskLine.j0 k (!t144) kind path dst off len text)) else (spec_AskLine.j0 k true kind path dst off len text)))
        (if decide (0 ≤ off ∧ off ≤ 1000000000) && decide (0 ≤ len ∧ len ≤ 1000000000) then bodyL kind path dst off len text else Sb []) := by
      refine Ev_const (spec_in ..) ?_
      by_cases h1 : 0 ≤ off ∧ off ≤ 1000000000
      · refine Ev_pos (by simpa using h1) (Ev_const (spec_in ..) ?_)
        by_cases h2 : 0 ≤ len ∧ len ≤ 1000000000
        · rw [decide_eq_true h2, decide_eq_true h1]
          refine Ev.step (fun k => by rw [spec_AskLine.j0]) ?_
          exact (Ev_neg (by simp) (spec_ask_body _ _ _ _ _ _ hp ht ho hl hk hx2))
        · rw [decide_eq_false h2, Bool.and_false]
          exact spec_ask_none ..
      · rw [decide_eq_false h1]
        exact Ev_neg (by simp) (spec_ask_none ..)
    have fin : (decide (kind ≠ 5) || plainB dst) = true → lineL kind path dst off len text = (if decide (0 ≤ off ∧ off ≤ 1000000000) && decide (0 ≤ len ∧ len ≤ 1000000000) then bodyL kind path dst off len text else Sb []) := fun h => by
      unfold lineL okL
      rw [h, decide_eq_true hk, decide_eq_true hx2, decide_eq_true hT, hpl]
      simp only [Bool.true_and, Bool.and_true]
    by_cases k5 : kind = 5
    · refine Ev_pos k5 (Ev.bind (spec_plain dst ht) ?_)
      cases hto : plainB dst with
      | false => exact Ev_neg (by simp) (Ev_eq (spec_ask_none ..) (no (by unfold okL; rw [hto]; simp [k5])).symm)
      | true => exact Ev_pos rfl (Ev_eq nums (fin (by rw [hto]; simp)).symm)
    · exact Ev_neg k5 (Ev_eq nums (fin (by simp [k5])).symm)
omit hx
theorem impl_ask_body (hk : 1 ≤ kind ∧ kind ≤ 11) (hx2 : text.size ≤ 200) : Ev (fun k => impl_AskLine.j0 k false kind path dst off len text)
    (if ((decide (kind ≠ 5) || plainB dst) && decide ((kind = 5 ∨ dst = Sb []) ∧ (kind = 6 ∨ kind = 7 ∨ off = 0) ∧ (kind = 6 ∨ kind = 8 ∨ len = 0) ∧ (kind = 7 ∨ text = Sb []))) = true then bodyL kind path dst off len text else Sb []) := by
  have hw := word_size kind
  have hsp : (⟨#[32]⟩ : ByteArray).size = 1 := rfl
  have hd1 := dec_size off ho.1 ho.2
  have hd2 := dec_size len hl.1 hl.2
  have hh := hexB_size text
  have hh2 : (dashB text).size ≤ 400 := by
    unfold dashB
    split
    · decide
    · omega
  have hd1' : (decB off).size ≤ 21 := hd1
  have hd2' : (decB len).size ≤ 21 := hd2
  refine Ev.step (fun k => by rw [impl_AskLine.j0]) ?_
  refine Ev_neg (by simp) (Ev_const (a := wordsL) rfl ?_)
  refine Ev_pos (by omega) (Ev_pos (by show kind < ((12 : Nat) : Int); omega) (Ev_pos (by omega) (Ev_pos (by simp only [ByteArray.size_append, hsp]; omega) (Ev.step (fun k => by rw [impl_AskLine.j1]) ?_))))
  by_cases k5 : kind = 5
  · refine Ev_pos k5 (Ev.bind (impl_plain dst ht) ?_)
    cases hto : plainB dst with
    | false => exact Ev_neg (by simp) (Ev_eq (Ev_now fun _ => rfl) (by simp [k5]; rfl))
    | true =>
      refine Ev_pos rfl (Ev_pos (by omega) (Ev_pos (by simp only [ByteArray.size_append, hsp]; omega) (Ev_eq (impl_ask_end ..) ?_)))
      simp only [bodyL, if_pos k5, Sp, ByteArray.append_assoc]
      subst k5
      simp [show (⟨#[]⟩ : ByteArray) = Sb [] from rfl]
  refine Ev_neg k5 ?_
  by_cases k6 : kind = 6
  · refine Ev_pos k6 (Ev_const (impl_dec off ho) (Ev_pos (by omega) (Ev_pos (by simp only [ByteArray.size_append, hsp]; omega) (Ev_const (impl_dec len hl) ?_))))
    refine Ev_pos (by simp only [ByteArray.size_append, hsp]; omega) (Ev_pos (by simp only [ByteArray.size_append, hsp]; omega) (Ev_eq (impl_ask_end ..) ?_))
    simp only [bodyL, if_neg k5, if_pos k6, Sp, ByteArray.append_assoc]
    subst k6
    simp
  refine Ev_neg k6 ?_
  by_cases k7 : kind = 7
  · refine Ev_pos k7 (Ev_const (impl_dec off ho) (Ev_pos (by omega) (Ev_pos (by simp only [ByteArray.size_append, hsp]; omega) (Ev_const (impl_dash text (by omega)) ?_))))
    rw [if_pos (show text.size ≤ 20000 by omega)]
    refine Ev_pos (by simp only [ByteArray.size_append, hsp]; omega) (Ev_pos (by simp only [ByteArray.size_append, hsp]; omega) (Ev_eq (impl_ask_end ..) ?_))
    simp only [bodyL, if_neg k5, if_neg k6, if_pos k7, Sp, ByteArray.append_assoc]
    subst k7
    simp [Sb]
  refine Ev_neg k7 ?_
  by_cases k8 : kind = 8
  · refine Ev_pos k8 (Ev_const (impl_dec len hl) (Ev_pos (by omega) (Ev_pos (by simp only [ByteArray.size_append, hsp]; omega) (Ev_eq (impl_ask_end ..) ?_))))
    simp only [bodyL, if_neg k5, if_neg k6, if_neg k7, if_pos k8, Sp, ByteArray.append_assoc]
    subst k8
    simp
  refine Ev_neg k8 (Ev_eq (impl_ask_end ..) ?_)
  simp only [bodyL, if_neg k5, if_neg k6, if_neg k7, if_neg k8, Sp]
  simp [k5, k6, k7, k8]
include hx
theorem impl_ask : Ev (fun k => impl_AskLine.f k kind path dst off len text) (lineL kind path dst off len text) := by
  unfold impl_AskLine.f
  have no : okL kind path dst off len text = false → lineL kind path dst off len text = Sb [] := fun h => by unfold lineL; rw [h]; rfl
  have hok : impl_AskOk.f kind path dst off len text = some (decide (1 ≤ kind ∧ kind ≤ 11) && decide (text.size ≤ 200)) := by
    unfold impl_AskOk.f
    rw [impl_in, Option.bind_some]
    by_cases h : 1 ≤ kind ∧ kind ≤ 11
    · rw [if_pos (by simpa using h), decide_eq_true h]; congr 1; simp; omega
    · rw [if_neg (by simpa using h), decide_eq_false h]; rfl
  refine Ev_const hok ?_
  by_cases hk : 1 ≤ kind ∧ kind ≤ 11
  case neg => exact Ev_neg (by simp [hk]) (Ev_eq (impl_ask_none ..) (no (by unfold okL; simp [hk])).symm)
  by_cases hx2 : text.size ≤ 200
  case neg => exact Ev_neg (by simp [hx2]) (Ev_eq (impl_ask_none ..) (no (by unfold okL; simp [hx2])).symm)
  refine Ev_pos (by simp [hk, hx2]) (Ev.bind (impl_plain path hp) ?_)
  cases hpl : plainB path with
  | false => exact Ev_neg (by simp) (Ev_eq (impl_ask_none ..) (no (by unfold okL; rw [hpl]; simp)).symm)
  | true =>
    refine Ev_pos rfl (Ev_const (impl_in ..) ?_)
    by_cases h1 : 0 ≤ off ∧ off ≤ 1000000000
    case neg => exact Ev_neg (by simp [h1]) (Ev_eq (impl_ask_none ..) (no (by unfold okL; simp [h1])).symm)
    refine Ev_pos (by simp [h1]) (Ev_const (impl_in ..) ?_)
    by_cases h2 : 0 ≤ len ∧ len ≤ 1000000000
    case neg => rw [decide_eq_false h2]; exact Ev_eq (impl_ask_none ..) (no (by unfold okL; rw [decide_eq_false h2]; simp)).symm
    rw [decide_eq_true h2]
    refine Ev_eq (impl_ask_body _ _ _ _ _ _ hp ht ho hl hk hx2) ?_
    unfold lineL okL
    rw [decide_eq_true hk, decide_eq_true hx2, decide_eq_true h1, decide_eq_true h2, hpl]
    simp only [Bool.true_and, Bool.and_true]
end

/-! ### a number's text, read again -/
theorem decFrom_append (a b : List UInt8) : ∀ m, Lib.decFrom m (a ++ b) = (Lib.decFrom m a).bind fun n => Lib.decFrom n b := by
  induction a with
  | nil => intro m; rfl
  | cons x t ih =>
    intro m
    show (match Lib.digitVal x with | some d => Lib.decFrom (m * 10 + d) (t ++ b) | none => none) = (match Lib.digitVal x with | some d => Lib.decFrom (m * 10 + d) t | none => none).bind fun n => Lib.decFrom n b
    cases Lib.digitVal x with
    | none => rfl
    | some d => exact ih _
theorem digit_fig (d : Nat) (h : d < 10) : Lib.digitVal (UInt8.ofNat (48 + d)) = some d := by
  have e : (UInt8.ofNat (48 + d)).toNat = 48 + d := by simp [UInt8.toNat_ofNat']; omega
  unfold Lib.digitVal
  rw [e, if_pos (by omega)]
  congr 1; omega
theorem decFrom_digits (u : Nat) : Lib.decFrom 0 (Lib.decDigits u) = some u := by
  induction u using Nat.strongRecOn with
  | _ u ih =>
    rw [Lib.decDigits]
    by_cases h : u < 10
    · rw [dif_pos h]
      unfold Lib.decFrom
      rw [digit_fig u h]
      show Lib.decFrom (0 * 10 + u) [] = _
      unfold Lib.decFrom
      congr 1; omega
    · rw [dif_neg h, decFrom_append, ih (u / 10) (by omega), Option.bind_some]
      unfold Lib.decFrom
      rw [digit_fig (u % 10) (by omega)]
      show Lib.decFrom (u / 10 * 10 + u % 10) [] = _
      unfold Lib.decFrom
      congr 1; omega
theorem digits_len (k : Nat) : ∀ u, u < 10 ^ (k + 1) → (Lib.decDigits u).length ≤ k + 1 := by
  induction k with
  | zero =>
    intro u h
    rw [Lib.decDigits, dif_pos (by simpa using h)]; simp
  | succ k ih =>
    intro u h
    rw [Lib.decDigits]
    by_cases h0 : u < 10
    · rw [dif_pos h0]; simp
    · rw [dif_neg h0, List.length_append]
      have := ih (u / 10) (by rw [Nat.pow_succ] at h; omega)
      simp; omega
theorem digits_ten (u : Nat) (h : u ≤ 1000000000) : (Lib.decDigits u).length ≤ 10 := digits_len 9 u (by omega)
theorem atoi_digits (u : Nat) (h : u ≤ 1000000000) : Lib.atoiAll (Lib.decDigits u) = .ok (u : Int) := by
  have hl := digits_ten u h
  rw [Lib.atoiAll_short _ (by omega)]
  have hd := decFrom_digits u
  cases he : Lib.decDigits u with
  | nil =>
    rw [Lib.decDigits] at he
    by_cases h0 : u < 10
    · rw [dif_pos h0] at he; cases he
    · rw [dif_neg h0] at he; simp at he
  | cons b r =>
    rw [he] at hd
    have hb : b ≠ 45 ∧ b ≠ 43 := by
      unfold Lib.decFrom at hd
      constructor <;> (rintro rfl; simp [Lib.digitVal] at hd)
    have hn : Lib.decNat (b :: r) = some u := by
      unfold Lib.decNat
      simpa using hd
    show Lib.NumEnd.ofOption (if (b == 45) = true then _ else if (b == 43) = true then _ else _) = _
    rw [if_neg (by simpa using hb.1), if_neg (by simpa using hb.2), hn]
    rfl
/-- The number that a text tells, and whether it tells one. -/
def decR (s : ByteArray) : Int × Bool :=
  if s.size ≤ 10 then (match Lib.decFrom 0 s.data.toList with
    | some n => if n ≤ 1000000000 ∧ Sb (Lib.decDigits n) = s then ((n : Int), true) else (0, false)
    | none => (0, false)) else (0, false)
theorem decR_of (n : Nat) (h : n ≤ 1000000000) : decR (Sb (Lib.decDigits n)) = ((n : Int), true) := by
  unfold decR
  rw [if_pos (by rw [Sb_size]; exact digits_ten n h), show (Sb (Lib.decDigits n)).data.toList = Lib.decDigits n from rfl, decFrom_digits]
  show (if _ then _ else _) = _
  rw [if_pos ⟨h, rfl⟩]
theorem decR_cases (s : ByteArray) : (∃ n : Nat, n ≤ 1000000000 ∧ s = Sb (Lib.decDigits n) ∧ decR s = ((n : Int), true)) ∨ (decR s = (0, false) ∧ ∀ n : Nat, n ≤ 1000000000 → s ≠ Sb (Lib.decDigits n)) := by
  by_cases h : ∃ n : Nat, n ≤ 1000000000 ∧ s = Sb (Lib.decDigits n)
  · obtain ⟨n, h1, rfl⟩ := h
    exact .inl ⟨n, h1, rfl, decR_of n h1⟩
  · refine .inr ⟨?_, fun n h1 h2 => h ⟨n, h1, h2⟩⟩
    unfold decR
    split
    · split
      · rw [if_neg (fun e => h ⟨_, e.1, e.2.symm⟩)]
      · rfl
    · rfl
theorem decR_small (s : ByteArray) : 0 ≤ (decR s).1 ∧ (decR s).1 ≤ 1000000000 := by
  rcases decR_cases s with ⟨n, h, _, e⟩ | ⟨e, _⟩
  · rw [e]; exact ⟨by omega, by show (n : Int) ≤ _; omega⟩
  · rw [e]; exact ⟨by decide, by decide⟩
theorem impl_rd (s : ByteArray) (hs : s.size ≤ 1048576) : impl_ReadDecimal.f s = some (decR s) := by
  unfold impl_ReadDecimal.f
  rw [if_pos hs]
  rcases decR_cases s with ⟨n, h, rfl, e⟩ | ⟨e, hno⟩
  · rw [e, show (Sb (Lib.decDigits n)).data.toList = Lib.decDigits n from rfl, atoi_digits n h]
    show (if _ then _ else _) = _
    rw [if_pos ⟨by omega, by rw [Lib.itoa_nonneg]; rfl⟩]
  · rw [e]
    rcases ha : Lib.atoiAll s.data.toList with v | _ | _
    rotate_left
    · rfl
    · rfl
    · show (if _ then _ else _) = _
      rw [if_neg]
      rintro ⟨⟨h0, h1⟩, h2⟩
      obtain ⟨u, rfl⟩ : ∃ u : Nat, v = u := ⟨v.toNat, by omega⟩
      rw [Lib.itoa_nonneg] at h2
      exact hno u (by omega) (toList_inj.1 h2).symm
theorem spec_rd_loop (s : ByteArray) (hs : s.size ≤ 10) (d : Nat) : ∀ (i m : Nat), i + d = s.size → m < 10 ^ i → Lib.decFrom 0 (s.data.toList.take i) = some m →
    Ev (fun k => spec_ReadDecimal.l0 k s (m : Int) (i : Int)) (decR s) := by
  induction d with
  | zero =>
    intro i m hi hm hd
    have ht : s.data.toList.take i = s.data.toList := List.take_of_length_le (by simp; omega)
    rw [ht] at hd
    have hm10 : m < 10 ^ 10 := Nat.lt_of_lt_of_le hm (Nat.pow_le_pow_right (by omega) (by omega))
    refine Ev.step (fun k => by rw [spec_ReadDecimal.l0]) (Ev_neg (by omega) ?_)
    have er : decR s = if m ≤ 1000000000 ∧ Sb (Lib.decDigits m) = s then ((m : Int), true) else (0, false) := by
      unfold decR
      rw [if_pos hs, hd]
    by_cases hb : (m : Int) > 1000000000
    · exact Ev_eq (Ev_pos hb (Ev_now fun _ => rfl)) (by rw [er, if_neg (fun e => by omega)])
    · refine Ev_neg hb (Ev.bind (spec_dec (m : Int) (by omega) (by omega)) ?_)
      rw [Lib.itoa_nonneg]
      by_cases hq : Sb (Lib.decDigits m) = s
      · exact Ev_eq (Ev_pos (toList_inj.2 hq) (Ev_now fun _ => rfl)) (by rw [er, if_pos ⟨by omega, hq⟩])
      · exact Ev_eq (Ev_neg (fun e => hq (toList_inj.1 e)) (Ev_now fun _ => rfl)) (by rw [er, if_neg (fun e => hq e.2)])
  | succ d ih =>
    intro i m hi hm hd
    have hlt : i < s.size := by omega
    have hl : i < s.data.toList.length := by simpa using hlt
    have hm10 : m < 10 ^ 9 := Nat.lt_of_lt_of_le hm (Nat.pow_le_pow_right (by omega) (by omega))
    have hbt := bt_at' s i hlt
    have hb := (s.data.toList[i]).toNat_lt
    have key : Lib.digitVal s.data.toList[i] = none → decR s = (0, false) := fun hn => by
      rcases decR_cases s with ⟨n, _, e, _⟩ | ⟨e, _⟩
      · exfalso
        have h2 : Lib.decFrom 0 s.data.toList = some n := by rw [e]; exact decFrom_digits n
        rw [← List.take_append_drop i s.data.toList, decFrom_append, hd, Option.bind_some, List.drop_eq_getElem_cons hl] at h2
        unfold Lib.decFrom at h2
        rw [hn] at h2
        cases h2
      · exact e
    refine Ev.step (fun k => by rw [spec_ReadDecimal.l0]) (Ev_pos (by omega) (Ev_pos (by omega) ?_))
    rw [hbt]
    by_cases h1 : ((s.data.toList[i]).toNat : Int) < 48
    · exact Ev_eq (Ev_pos h1 (Ev_now fun _ => rfl)) (key (by unfold Lib.digitVal; rw [if_neg (by omega)])).symm
    · refine Ev_neg h1 ?_
      by_cases h2 : ((s.data.toList[i]).toNat : Int) > 57
      · exact Ev_eq (Ev_pos h2 (Ev_now fun _ => rfl)) (key (by unfold Lib.digitVal; rw [if_neg (by omega)])).symm
      · refine Ev_neg h2 ?_
        have e1 : wrap64 (10 * (m : Int)) = 10 * (m : Int) := wrap_id (by omega) (by omega)
        have e2 : wrap64 ((s.data.toList[i]).toNat : Int) = ((s.data.toList[i]).toNat : Int) := wrap_id (by omega) (by omega)
        rw [e1, e2, wrap_id (n := 10 * (m : Int) + ((s.data.toList[i]).toNat : Int)) (by omega) (by omega), wrap_id (n := 10 * (m : Int) + ((s.data.toList[i]).toNat : Int) - 48) (by omega) (by omega), wrap_id (n := (i : Int) + 1) (by omega) (by omega)]
        have e3 : 10 * (m : Int) + ((s.data.toList[i]).toNat : Int) - 48 = ((m * 10 + ((s.data.toList[i]).toNat - 48) : Nat) : Int) := by omega
        rw [e3]
        refine ih (i + 1) _ (by omega) (by rw [Nat.pow_succ]; omega) ?_
        rw [List.take_succ_eq_append_getElem hl, decFrom_append, hd, Option.bind_some]
        unfold Lib.decFrom Lib.digitVal
        rw [if_pos (by omega)]
        rfl
theorem spec_rd (s : ByteArray) : Ev (fun k => spec_ReadDecimal.f k s) (decR s) := by
  unfold spec_ReadDecimal.f
  by_cases h : (s.size : Int) > 10
  · refine Ev_eq (Ev_pos h (Ev_now fun _ => rfl)) ?_
    unfold decR
    rw [if_neg (by omega)]
  · exact Ev_neg h (spec_rd_loop s (by omega) s.size 0 0 (by omega) (by simp) rfl)

/-! ### a text in hexadecimal, read again -/
def valB (b : Nat) : Int := if 48 ≤ b ∧ b ≤ 57 then (b : Int) - 48 else if 97 ≤ b ∧ b ≤ 102 then (b : Int) - 87 else -1
theorem valB_digit : ∀ d : Fin 16, valB (Lib.Hx.digit d.val).toNat = (d.val : Int) := by decide
theorem valB_back : ∀ b : Fin 256, 0 ≤ valB b.val → valB b.val < 16 ∧ (Lib.Hx.digit (valB b.val).toNat).toNat = b.val := by decide +kernel
theorem spec_val (b : UInt8) : Ev (fun k => spec_l01Value.f k (b.toNat : Int)) (valB b.toNat) := by
  have hb := b.toNat_lt
  have w0 : wrap64 (b.toNat : Int) = (b.toNat : Int) := wrap_id (by omega) (by omega)
  unfold spec_l01Value.f
  have fin : ¬ (48 ≤ b.toNat ∧ b.toNat ≤ 57) → Ev (fun k => spec_l01Value.j0 k (b.toNat : Int) false) (valB b.toNat) := fun hn => by
    refine Ev.step (fun k => by rw [spec_l01Value.j0]) (Ev_neg (by simp) ?_)
    have e : valB b.toNat = if 97 ≤ b.toNat ∧ b.toNat ≤ 102 then (b.toNat : Int) - 87 else -1 := by unfold valB; rw [if_neg hn]
    by_cases h1 : (b.toNat : Int) ≥ 97
    · refine Ev_pos h1 ?_
      by_cases h2 : (b.toNat : Int) ≤ 102
      · refine Ev_eq (Ev_pos h2 (Ev_now fun _ => rfl)) ?_
        rw [e, if_pos ⟨by omega, by omega⟩, w0, wrap_id (n := (b.toNat : Int) - 97) (by omega) (by omega), wrap_id (by omega) (by omega)]
        omega
      · exact Ev_eq (Ev_neg h2 (Ev_now fun _ => rfl)) (by rw [e, if_neg (by omega)])
    · exact Ev_eq (Ev_neg h1 (Ev_now fun _ => rfl)) (by rw [e, if_neg (by omega)])
  by_cases h1 : (b.toNat : Int) ≥ 48
  · refine Ev_pos h1 ?_
    by_cases h2 : (b.toNat : Int) ≤ 57
    · rw [decide_eq_true h2]
      refine Ev_eq (Ev.step (fun k => by rw [spec_l01Value.j0]) (Ev_pos rfl (Ev_now fun _ => rfl))) ?_
      unfold valB
      rw [if_pos ⟨by omega, by omega⟩, w0, wrap_id (by omega) (by omega)]
    · rw [decide_eq_false h2]
      exact fin (by omega)
  · exact Ev_neg h1 (fin (by omega))
/-- What a text in hexadecimal tells, and whether it is one. -/
def unR (s : ByteArray) : ByteArray × Bool :=
  if (Lib.Hx.decode s.data.toList).1.length ≤ 20000 ∧ Lib.Hx.encode (Lib.Hx.decode s.data.toList).1 = s.data.toList then (Sb (Lib.Hx.decode s.data.toList).1, true) else (Sb [], false)
theorem unR_of (o : List UInt8) (h : o.length ≤ 20000) : unR (Sb (Lib.Hx.encode o)) = (Sb o, true) := by
  unfold unR
  rw [show (Sb (Lib.Hx.encode o)).data.toList = Lib.Hx.encode o from rfl, Lib.Hx.decode_encode]
  rw [if_pos ⟨h, rfl⟩]
theorem unR_cases (s : ByteArray) : (∃ o : List UInt8, o.length ≤ 20000 ∧ s.data.toList = Lib.Hx.encode o ∧ unR s = (Sb o, true)) ∨ (unR s = (Sb [], false) ∧ ∀ o : List UInt8, o.length ≤ 20000 → s.data.toList ≠ Lib.Hx.encode o) := by
  by_cases h : ∃ o : List UInt8, o.length ≤ 20000 ∧ s.data.toList = Lib.Hx.encode o
  · obtain ⟨o, h1, h2⟩ := h
    refine .inl ⟨o, h1, h2, ?_⟩
    rw [Sb_of s, h2]
    exact unR_of o h1
  · refine .inr ⟨?_, fun o h1 h2 => h ⟨o, h1, h2⟩⟩
    unfold unR
    rw [if_neg (fun e => h ⟨_, e.1, e.2.symm⟩)]
theorem unR_size (s : ByteArray) : (unR s).1.size ≤ 20000 := by
  rcases unR_cases s with ⟨o, h, _, e⟩ | ⟨e, _⟩
  · rw [e]; show (Sb o).size ≤ _; rw [Sb_size]; exact h
  · rw [e]; decide
theorem impl_un (s : ByteArray) (hs : s.size ≤ 1048576) : impl_Unhex.f s = some (unR s) := by
  unfold impl_Unhex.f
  rw [if_pos hs]
  rcases unR_cases s with ⟨o, h, e1, e⟩ | ⟨e, hno⟩
  · rw [e, e1, Lib.Hx.decode_encode]
    show (if _ then _ else _) = _
    rw [if_pos ⟨h, by rw [toList_inj, Sb_of s, e1]; rfl⟩]; rfl
  · rw [e]
    cases ha : (Lib.Hx.decode s.data.toList).2 with
    | bad c => rfl
    | odd => rfl
    | ok =>
      show (if _ then _ else _) = _
      rw [if_neg]
      · rfl
      · rintro ⟨h0, h2⟩
        refine hno _ h0 ?_
        exact (congrArg (fun z : ByteArray => z.data.toList) (toList_inj.1 h2)).symm
theorem encode_snoc (o : List UInt8) (c : UInt8) : Lib.Hx.encode (o ++ [c]) = Lib.Hx.encode o ++ [Lib.Hx.digit (c.toNat / 16), Lib.Hx.digit (c.toNat % 16)] := by
  unfold Lib.Hx.encode
  rw [List.flatMap_append]
  simp
theorem encode_digit (o : List UInt8) (b : UInt8) (h : b ∈ Lib.Hx.encode o) : ∃ d, d < 16 ∧ b = Lib.Hx.digit d := by
  unfold Lib.Hx.encode at h
  obtain ⟨c, _, hc⟩ := List.mem_flatMap.1 h
  have := c.toNat_lt
  simp only [List.mem_cons, List.not_mem_nil, or_false] at hc
  rcases hc with rfl | rfl
  · exact ⟨_, by omega, rfl⟩
  · exact ⟨_, by omega, rfl⟩
theorem spec_un_loop (s : ByteArray) (hs : s.size ≤ 40000) (d : Nat) : ∀ (i : Nat) (o : List UInt8), i + 2 * d = s.size → 2 * o.length = i → Lib.Hx.encode o = s.data.toList.take i →
    Ev (fun k => spec_Unhex.l0 k s (o.map fun b => (b.toNat : Int)) (i : Int)) (unR s) := by
  induction d with
  | zero =>
    intro i o hi ho he
    rw [List.take_of_length_le (by simp; omega)] at he
    refine Ev_eq (Ev.step (fun k => by rw [spec_Unhex.l0]) (Ev_neg (by omega) (Ev_now fun _ => rfl))) ?_
    rw [strOf_bytes, Sb_of s, ← he, unR_of o (by omega)]
  | succ d ih =>
    intro i o hi ho he
    have hl0 : s.data.toList.length = s.size := by simp
    have h1 : i < s.data.toList.length := by omega
    have h2 : i + 1 < s.data.toList.length := by omega
    have b1 := bt_at' s i (by omega)
    have b2 := bt_at' s (i + 1) (by omega)
    have w1 : wrap64 ((i : Int) + 1) = ((i + 1 : Nat) : Int) := by rw [wrap_id (by omega) (by omega)]; rfl
    have bad : ∀ (b : UInt8), b ∈ s.data.toList → valB b.toNat < 0 → unR s = (Sb [], false) := fun b hm hv => by
      rcases unR_cases s with ⟨o', _, e1, _⟩ | ⟨e, _⟩
      · exfalso
        rw [e1] at hm
        obtain ⟨q, hq, rfl⟩ := encode_digit o' b hm
        have := valB_digit ⟨q, hq⟩
        simp only at this
        omega
      · exact e
    refine Ev.step (fun k => by rw [spec_Unhex.l0]) (Ev_pos (by omega) (Ev_pos (by omega) ?_))
    rw [w1, b1, b2]
    refine Ev.bind (spec_val _) (Ev_pos (by omega) (Ev_pos (by omega) (Ev.bind (spec_val _) ?_)))
    by_cases v1 : valB (s.data.toList[i]).toNat < 0
    · exact Ev_eq (Ev_pos v1 (Ev_now fun _ => rfl)) (bad _ (List.getElem_mem h1) v1).symm
    refine Ev_neg v1 ?_
    by_cases v2 : valB (s.data.toList[i + 1]).toNat < 0
    · exact Ev_eq (Ev_pos v2 (Ev_now fun _ => rfl)) (bad _ (List.getElem_mem h2) v2).symm
    have l1 := (s.data.toList[i]).toNat_lt
    have l2 := (s.data.toList[i + 1]).toNat_lt
    obtain ⟨p1, q1⟩ := valB_back ⟨(s.data.toList[i]).toNat, l1⟩ (by simpa using Int.not_lt.1 v1)
    obtain ⟨p2, q2⟩ := valB_back ⟨(s.data.toList[i + 1]).toNat, l2⟩ (by simpa using Int.not_lt.1 v2)
    simp only at p1 p2 q1 q2
    refine Ev_neg v2 (Ev_pos (by rw [List.length_map]; omega) ?_)
    generalize hx : valB (s.data.toList[i]).toNat = x at v1 p1 q1
    generalize hy : valB (s.data.toList[i + 1]).toNat = y at v2 p2 q2
    have e3 : wrap64 (wrap64 (16 * x) + y) % 256 = 16 * x + y := by
      rw [wrap_id (n := 16 * x) (by omega) (by omega), wrap_id (by omega) (by omega)]; omega
    rw [e3, wrap_id (n := (i : Int) + 2) (by omega) (by omega)]
    have e4 : (UInt8.ofNat (16 * x + y).toNat).toNat = (16 * x + y).toNat := by simp [UInt8.toNat_ofNat']; omega
    have e5 : (o.map fun b => (b.toNat : Int)) ++ [16 * x + y] = (o ++ [UInt8.ofNat (16 * x + y).toNat]).map fun b => (b.toNat : Int) := by
      rw [List.map_append, List.map_cons, List.map_nil, e4]
      congr 2; omega
    rw [e5]
    refine ih (i + 2) _ (by omega) (by simp; omega) ?_
    rw [encode_snoc, he, e4, List.take_succ_eq_append_getElem h2, List.take_succ_eq_append_getElem h1, List.append_assoc]
    congr 1
    have d1 : (16 * x + y).toNat / 16 = x.toNat := by omega
    have d2 : (16 * x + y).toNat % 16 = y.toNat := by omega
    rw [d1, d2]
    show [_, _] = [_, _]
    rw [UInt8.toNat_inj.1 q1, UInt8.toNat_inj.1 q2]
theorem encode_even (o : List UInt8) : (Lib.Hx.encode o).length = 2 * o.length := encode_len o
theorem spec_un (s : ByteArray) (hs : s.size ≤ 1048576) : Ev (fun k => spec_Unhex.f k s) (unR s) := by
  have hl0 : s.data.toList.length = s.size := by simp
  unfold spec_Unhex.f
  have no : (∀ o : List UInt8, o.length ≤ 20000 → s.data.toList ≠ Lib.Hx.encode o) → unR s = (Sb [], false) := fun h => by
    rcases unR_cases s with ⟨o, h1, h2, _⟩ | ⟨e, _⟩
    · exact absurd h2 (h o h1)
    · exact e
  by_cases h1 : (s.size : Int) > 40000
  · refine Ev_eq (Ev_pos h1 (Ev.step (fun k => by rw [spec_Unhex.j0]) (Ev_pos rfl (Ev_now fun _ => rfl)))) ?_
    rw [no]
    · rfl
    · intro o ho e
      have := encode_len o
      rw [← e, hl0] at this
      omega
  · refine Ev_neg h1 ?_
    by_cases h2 : (s.size : Int) % 2 = 0
    · have e : (((s.size : Int) % 2) != 0) = false := by simp [h2]
      rw [e]
      refine Ev.step (fun k => by rw [spec_Unhex.j0]) (Ev_neg (by simp) ?_)
      exact spec_un_loop s (by omega) (s.size / 2) 0 [] (by omega) rfl rfl
    · have e : (((s.size : Int) % 2) != 0) = true := by simp; omega
      rw [e]
      refine Ev_eq (Ev.step (fun k => by rw [spec_Unhex.j0]) (Ev_pos rfl (Ev_now fun _ => rfl))) ?_
      rw [no]
      · rfl
      · intro o ho e
        have := encode_len o
        rw [← e, hl0] at this
        omega

/-! ### a line cut at its spaces -/
def spL : List UInt8 → List (List UInt8)
  | [] => [[]]
  | b :: t => if b = 32 then [] :: spL t else (match spL t with
    | h :: r => (b :: h) :: r
    | [] => [[b]])
def joinW : List (List UInt8) → List UInt8
  | [] => []
  | [x] => x
  | x :: y :: r => x ++ 32 :: joinW (y :: r)
theorem spL_ne (l : List UInt8) : spL l ≠ [] := by
  cases l with
  | nil => simp [spL]
  | cons b t =>
    unfold spL
    split
    · simp
    · split <;> simp
theorem spL_word (x : List UInt8) (h : (32 : UInt8) ∉ x) (l : List UInt8) : spL (x ++ 32 :: l) = x :: spL l := by
  induction x with
  | nil => simp [spL]
  | cons b t ih =>
    have hb : b ≠ 32 := fun e => h (by rw [e]; exact List.mem_cons_self)
    have ht : (32 : UInt8) ∉ t := fun e => h (List.mem_cons_of_mem _ e)
    rw [List.cons_append, spL, if_neg hb, ih ht]
theorem spL_last (x : List UInt8) (h : (32 : UInt8) ∉ x) : spL x = [x] := by
  induction x with
  | nil => rfl
  | cons b t ih =>
    have hb : b ≠ 32 := fun e => h (by rw [e]; exact List.mem_cons_self)
    have ht : (32 : UInt8) ∉ t := fun e => h (List.mem_cons_of_mem _ e)
    unfold spL
    rw [if_neg hb, ih ht]
theorem spL_join (p : List (List UInt8)) (hn : p ≠ []) (h : ∀ x ∈ p, (32 : UInt8) ∉ x) : spL (joinW p) = p := by
  induction p with
  | nil => exact absurd rfl hn
  | cons x t ih =>
    cases t with
    | nil => exact spL_last x (h x List.mem_cons_self)
    | cons y r =>
      show spL (x ++ 32 :: joinW (y :: r)) = _
      rw [spL_word x (h x List.mem_cons_self), ih (by simp) (fun z hz => h z (List.mem_cons_of_mem _ hz))]
theorem joinW_cons (b : UInt8) (h : List UInt8) (r : List (List UInt8)) : joinW ((b :: h) :: r) = b :: joinW (h :: r) := by
  cases r <;> rfl
theorem spL_spec (l : List UInt8) : joinW (spL l) = l ∧ ∀ x ∈ spL l, (32 : UInt8) ∉ x := by
  induction l with
  | nil => exact ⟨rfl, by simp [spL]⟩
  | cons b t ih =>
    unfold spL
    by_cases hb : b = 32
    · rw [if_pos hb]
      subst hb
      cases hs : spL t with
      | nil => exact absurd hs (spL_ne t)
      | cons y r =>
        rw [hs] at ih
        refine ⟨?_, fun x hx => ?_⟩
        · show [] ++ 32 :: joinW (y :: r) = _
          rw [ih.1]; rfl
        · rcases List.mem_cons.1 hx with rfl | hx
          · simp
          · exact ih.2 x hx
    · rw [if_neg hb]
      cases hs : spL t with
      | nil => exact absurd hs (spL_ne t)
      | cons y r =>
        rw [hs] at ih
        refine ⟨?_, fun x hx => ?_⟩
        · show joinW ((b :: y) :: r) = _
          rw [joinW_cons, ih.1]
        · rcases List.mem_cons.1 hx with rfl | hx
          · intro hm
            rcases List.mem_cons.1 hm with e | hm
            · exact hb e.symm
            · exact ih.2 y List.mem_cons_self hm
          · exact ih.2 x (List.mem_cons_of_mem _ hx)
theorem split_iff (l : List UInt8) (p : List (List UInt8)) : spL l = p ↔ p ≠ [] ∧ (∀ x ∈ p, (32 : UInt8) ∉ x) ∧ joinW p = l := by
  constructor
  · rintro rfl
    exact ⟨spL_ne l, (spL_spec l).2, (spL_spec l).1⟩
  · rintro ⟨h1, h2, rfl⟩
    exact spL_join p h1 h2
theorem index_find (l : List UInt8) : (Lib.index l [32] = -1 ∧ (32 : UInt8) ∉ l) ∨ ∃ i : Nat, Lib.index l [32] = i ∧ (32 : UInt8) ∉ l.take i ∧ l = l.take i ++ 32 :: l.drop (i + 1) := by
  induction l with
  | nil => exact .inl ⟨rfl, by simp⟩
  | cons b t ih =>
    unfold Lib.index
    by_cases hb : b = 32
    · subst hb
      refine .inr ⟨0, by simp [List.isPrefixOf], by simp, by simp⟩
    · have hp : ([32] : List UInt8).isPrefixOf (b :: t) = false := by
        simp [List.isPrefixOf]
        exact fun e => hb e.symm
      rw [hp]
      rcases ih with ⟨h1, h2⟩ | ⟨i, h1, h2, h3⟩
      · refine .inl ⟨by rw [h1]; rfl, ?_⟩
        simp [h2]
        exact fun e => hb e.symm
      · refine .inr ⟨i + 1, ?_, ?_, ?_⟩
        · rw [h1]
          have : ((i : Int) == -1) = false := beq_eq_false_iff_ne.mpr (by omega)
          rw [this]; rfl
        · rw [List.take_succ_cons]
          simp [h2]
          exact fun e => hb e.symm
        · rw [List.take_succ_cons, List.drop_succ_cons, List.cons_append, ← h3]
theorem splitK_eq (n : Nat) : ∀ l : List UInt8, l.length ≤ n → Lib.splitK [32] 0 (Lib.count l [32]) l = spL l := by
  induction n with
  | zero =>
    intro l hl
    have : l = [] := List.eq_nil_of_length_eq_zero (by omega)
    subst this
    rw [Lib.count_miss (show Lib.index [] [32] = -1 from rfl)]
    rfl
  | succ n ih =>
    intro l hl
    rcases index_find l with ⟨h1, h2⟩ | ⟨i, h1, h2, h3⟩
    · rw [Lib.count_miss h1, spL_last l h2]
      rfl
    · have hlen : (l.drop (i + 1)).length ≤ n := by
        have h4 : i < l.length := by
          rcases Nat.lt_or_ge i l.length with h | h
          · exact h
          · exfalso
            rw [List.take_of_length_le h] at h3
            have := congrArg List.length h3
            simp at this
        rw [List.length_drop]; omega
      rw [Lib.count_hit (by simp) h1, Nat.add_comm, Lib.splitK, h1]
      have hm : ((i : Int) == -1) = false := beq_eq_false_iff_ne.mpr (by omega)
      rw [hm]
      show l.take i :: Lib.splitK [32] 0 (Lib.count (l.drop (i + 1)) [32]) (l.drop (i + 1)) = _
      rw [ih _ hlen]
      conv => rhs; rw [h3]
      rw [spL_word _ h2]

/-! ### strings.Split and the reference's join -/
theorem data_inj {a b : ByteArray} (h : a.data.toList = b.data.toList) : a = b := by
  cases a; cases b
  congr 1
  exact Array.toList_inj.1 h
theorem map_data_inj : ∀ {a b : List ByteArray}, a.map (·.data.toList) = b.map (·.data.toList) → a = b
  | [], [], _ => rfl
  | [], _ :: _, h => by simp at h
  | _ :: _, [], h => by simp at h
  | x :: a, y :: b, h => by
    rw [List.map_cons, List.map_cons] at h
    injection h with h1 h2
    rw [data_inj h1, map_data_inj h2]
theorem impl_split (s : ByteArray) (hs : s.size ≤ 100000000) : ∃ L, strings_Split.f s (⟨#[32]⟩ : ByteArray) = some L ∧ L.map (·.data.toList) = spL s.data.toList := by
  unfold strings_Split.f
  refine ⟨_, if_pos ⟨by omega, by decide⟩, ?_⟩
  rw [Lib.splitB_data]
  have : Lib.countB s (⟨#[32]⟩ : ByteArray) = Lib.count s.data.toList [32] := rfl
  rw [this]
  exact splitK_eq _ s.data.toList (Nat.le_refl _)
/-- Is the line the join of the words, none of which bears a space? -/
def fitB (s : ByteArray) (p : List ByteArray) : Bool := decide (spL s.data.toList = p.map (·.data.toList))
theorem impl_fit (s : ByteArray) (hs : s.size ≤ 100000000) (p : List ByteArray) : ∃ L, strings_Split.f s (⟨#[32]⟩ : ByteArray) = some L ∧ slices_Equal_string_string.f L p = some (fitB s p) := by
  obtain ⟨L, h1, h2⟩ := impl_split s hs
  refine ⟨L, h1, ?_⟩
  unfold slices_Equal_string_string.f fitB
  rw [← h2]
  congr 1
  by_cases e : L = p
  · rw [decide_eq_true e, decide_eq_true (by rw [e])]
  · rw [decide_eq_false e, decide_eq_false (fun h => e (map_data_inj h))]

/-! ### the reference's join -/
theorem joinW_flat (x : List UInt8) (l : List (List UInt8)) : joinW (x :: l) = x ++ (l.map (32 :: ·)).flatten := by
  induction l generalizing x with
  | nil => simp [joinW]
  | cons y r ih =>
    show x ++ 32 :: joinW (y :: r) = _
    rw [ih, List.map_cons, List.flatten_cons]; simp
def tailJ (l : List ByteArray) : ByteArray := Sb ((l.map fun x => 32 :: x.data.toList).flatten)
theorem tailJ_cons (x : ByteArray) (l : List ByteArray) : tailJ (x :: l) = (⟨#[32]⟩ : ByteArray) ++ x ++ tailJ l := by
  unfold tailJ
  rw [List.map_cons, List.flatten_cons, ← Sb_append]
  congr 1
def joinB (p : List ByteArray) : ByteArray := Sb (joinW (p.map (·.data.toList)))
theorem joinB_cons (x : ByteArray) (l : List ByteArray) : joinB (x :: l) = x ++ tailJ l := by
  unfold joinB tailJ
  rw [List.map_cons, joinW_flat, ← Sb_append, ← Sb_of x, List.map_map]; rfl
theorem spec_join_loop (p : List ByteArray) (hp : p.length + sumS p ≤ 1048576) (d : Nat) : ∀ (i : Nat) (acc : ByteArray), 1 ≤ i → i + d = p.length → acc.size + (p.length - i) + sumS (p.drop i) ≤ 1048576 →
    Ev (fun k => spec_l31Join.l0 k p acc (i : Int)) (acc ++ tailJ (p.drop i)) := by
  induction d with
  | zero =>
    intro i acc h1 hi hs
    refine Ev_eq (Ev.step (fun k => by rw [spec_l31Join.l0]) (Ev_neg (by omega) (Ev_now fun _ => rfl))) ?_
    rw [List.drop_eq_nil_of_le (by omega)]
    show acc = acc ++ Sb []
    rw [Sb_of acc, Sb_append, List.append_nil]
  | succ d ih =>
    intro i acc h1 hi hs
    have hlt : i < p.length := by omega
    have e0 := rdOf_get p i hlt
    have s1 : (⟨#[32]⟩ : ByteArray).size = 1 := rfl
    rw [List.drop_eq_getElem_cons hlt, sumS_cons] at hs
    refine Ev.step (fun k => by rw [spec_l31Join.l0]) (Ev_pos (by omega) (Ev_pos (by omega) (Ev_pos (by omega) (Ev_pos (by omega) ?_))))
    rw [e0, wrap_id (n := (i : Int) + 1) (by omega) (by omega)]
    refine Ev_pos (by rw [ByteArray.size_append, s1]; omega) (Ev_eq (ih (i + 1) _ (by omega) (by omega) (by rw [ByteArray.size_append, ByteArray.size_append, s1]; omega)) ?_)
    rw [List.drop_eq_getElem_cons hlt, tailJ_cons]
    rw [Sb_of acc, Sb_of p[i], Sb_of (tailJ (p.drop (i + 1))), show (⟨#[32]⟩ : ByteArray) = Sb [32] from rfl]
    simp only [Sb_append, List.append_assoc]
theorem spec_join (p : List ByteArray) (hp : p.length + sumS p ≤ 1048576) (hn : p ≠ []) : Ev (fun k => spec_l31Join.f k p) (joinB p) := by
  cases p with
  | nil => exact absurd rfl hn
  | cons x l =>
    unfold spec_l31Join.f
    rw [sumS_cons, List.length_cons] at hp
    have e0 : rdOf ByteArray.empty (x :: l) 0 = x := rfl
    have hx : ((⟨#[]⟩ : ByteArray) ++ x) = x := by
      rw [show (⟨#[]⟩ : ByteArray) = Sb [] from rfl, Sb_of x, Sb_append, List.nil_append]
    refine Ev.step (fun k => by rw [spec_l31Join.l0]) (Ev_pos (by rw [List.length_cons]; omega) (Ev_neg (by omega) (Ev_pos (by omega) ?_)))
    rw [e0, hx, wrap_id (n := (0 : Int) + 1) (by omega) (by omega)]
    refine Ev_pos (by rw [show (⟨#[]⟩ : ByteArray).size = 0 from rfl]; omega) ?_
    have := spec_join_loop (x :: l) (by rw [sumS_cons, List.length_cons]; omega) l.length 1 x (by omega) (by rw [List.length_cons]; omega) (by rw [List.length_cons]; show x.size + (l.length + 1 - 1) + sumS l ≤ _; omega)
    rw [joinB_cons]
    exact this

/-! ### the size of a line -/
theorem line_size (kind : Int) (path dst : ByteArray) (off len : Int) (text : ByteArray) (hp : path.size ≤ 1048576) (ht : dst.size ≤ 1048576)
    (ho : -9223372036854775808 ≤ off ∧ off ≤ 9223372036854775807) (hl : -9223372036854775808 ≤ len ∧ len ≤ 9223372036854775807) (hx : text.size ≤ 1048576) : (lineL kind path dst off len text).size ≤ 100000000 := by
  have hw := word_size kind
  have hsp : Sp.size = 1 := rfl
  have hd1 : (decB off).size ≤ 21 := dec_size off ho.1 ho.2
  have hd2 : (decB len).size ≤ 21 := dec_size len hl.1 hl.2
  have hh : (dashB text).size ≤ 2097153 := by
    unfold dashB
    by_cases h : text.size = 0
    · rw [if_pos h]; decide
    · rw [if_neg h, hexB_size]; omega
  unfold lineL
  by_cases h0 : okL kind path dst off len text = true
  · rw [if_pos h0]
    unfold bodyL
    by_cases k5 : kind = 5
    · rw [if_pos k5]; simp only [ByteArray.size_append]; omega
    rw [if_neg k5]
    by_cases k6 : kind = 6
    · rw [if_pos k6]; simp only [ByteArray.size_append]; omega
    rw [if_neg k6]
    by_cases k7 : kind = 7
    · rw [if_pos k7]; simp only [ByteArray.size_append]; omega
    rw [if_neg k7]
    by_cases k8 : kind = 8
    · rw [if_pos k8]; simp only [ByteArray.size_append]; omega
    rw [if_neg k8]; simp only [ByteArray.size_append]; omega
  · rw [if_neg h0]; decide

/-! ### words without a space -/
def hasSp (l : List UInt8) : Bool := l.any fun b => decide (b = 32)
def anySp (p : List ByteArray) : Bool := p.any fun x => hasSp x.data.toList
theorem hasSp_iff (l : List UInt8) : hasSp l = true ↔ (32 : UInt8) ∈ l := by
  unfold hasSp
  simp
theorem fit_eq (s : ByteArray) (p : List ByteArray) (hn : p ≠ []) : fitB s p = (!anySp p && decide (s = joinB p)) := by
  unfold fitB
  rw [Bool.eq_iff_iff, decide_eq_true_iff, split_iff, Bool.and_eq_true, Bool.not_eq_true', decide_eq_true_iff]
  have e1 : anySp p = false ↔ ∀ x ∈ p.map (·.data.toList), (32 : UInt8) ∉ x := by
    unfold anySp
    rw [List.any_eq_false]
    constructor
    · intro h x hx
      obtain ⟨y, hy, rfl⟩ := List.mem_map.1 hx
      exact fun hm => h y hy ((hasSp_iff _).2 hm)
    · intro h x hx hc
      exact h _ (List.mem_map.2 ⟨x, hx, rfl⟩) ((hasSp_iff _).1 hc)
  have e2 : s = joinB p ↔ joinW (p.map (·.data.toList)) = s.data.toList := by
    unfold joinB
    constructor
    · intro h; rw [h]; rfl
    · intro h; rw [h]; exact Sb_of s
  rw [e1, e2]
  simp [hn]

/-! ### an operation, read -/
def ZR : Int × ByteArray × ByteArray × Int × Int × ByteArray × Bool := (0, (⟨#[]⟩ : ByteArray), (⟨#[]⟩ : ByteArray), 0, 0, (⟨#[]⟩ : ByteArray), false)
def finR (p : List ByteArray) (kind : Int) (path dst : ByteArray) (off len : Int) (text : ByteArray) : Int × ByteArray × ByteArray × Int × Int × ByteArray × Bool :=
  if lineL kind path dst off len text = Sb [] then ZR else if fitB (lineL kind path dst off len text) p = true then (kind, path, dst, off, len, text, true) else ZR
section
variable (p : List ByteArray) (hp : p.length + sumS p ≤ 1048576)
variable (kind : Int) (path dst : ByteArray) (off len : Int) (text : ByteArray)
variable (h1 : path.size ≤ 1048576) (h2 : dst.size ≤ 1048576) (ho : -9223372036854775808 ≤ off ∧ off ≤ 9223372036854775807) (hl : -9223372036854775808 ≤ len ∧ len ≤ 9223372036854775807) (h3 : text.size ≤ 1048576)
include h1 h2 ho hl h3
theorem impl_end : Ev (fun k => impl_ReadAsk.j3 k p kind path dst off len text) (finR p kind path dst off len text) := by
  have hs := line_size kind path dst off len text h1 h2 ho hl h3
  refine Ev.step (fun k => by rw [impl_ReadAsk.j3]) (Ev.bind (impl_ask kind path dst off len text h1 h2 ho hl h3) ?_)
  unfold finR
  by_cases hn : lineL kind path dst off len text = Sb []
  · exact Ev_eq (Ev_pos (toList_nil.2 hn) (Ev_now fun _ => rfl)) (by rw [if_pos hn]; rfl)
  · refine Ev_neg (fun e => hn (toList_nil.1 e)) ?_
    obtain ⟨L, e1, e2⟩ := impl_fit (lineL kind path dst off len text) hs p
    refine Ev_const e1 (Ev_const e2 ?_)
    by_cases hf : fitB (lineL kind path dst off len text) p = true
    · exact Ev_eq (Ev_pos hf (Ev_now fun _ => rfl)) (by rw [if_neg hn, if_pos hf])
    · exact Ev_eq (Ev_neg hf (Ev_now fun _ => rfl)) (by rw [if_neg hn, if_neg hf]; rfl)
omit h1 h2 ho hl h3
include hp
theorem spec_tail (hn : p ≠ []) (s : ByteArray) : Ev (fun k => spec_ReadAsk.l1 k p s (p.length : Int) kind path dst off len text) (if s = Sb [] then ZR else if s = joinB p then (kind, path, dst, off, len, text, true) else ZR) := by
  refine Ev.step (fun k => by rw [spec_ReadAsk.l1]) (Ev_neg (by omega) ?_)
  by_cases h0 : s = Sb []
  · exact Ev_eq (Ev_pos (toList_nil.2 h0) (Ev_now fun _ => rfl)) (by rw [if_pos h0]; rfl)
  · refine Ev_neg (fun e => h0 (toList_nil.1 e)) (Ev.bind (spec_join p hp hn) ?_)
    by_cases hj : s = joinB p
    · exact Ev_eq (Ev_pos (toList_inj.2 hj) (Ev_now fun _ => rfl)) (by rw [if_neg h0, if_pos hj])
    · exact Ev_eq (Ev_neg (fun e => hj (toList_inj.1 e)) (Ev_now fun _ => rfl)) (by rw [if_neg h0, if_neg hj]; rfl)
theorem spec_bytes (s : ByteArray) (i : Nat) (hi : i < p.length) (r : Int × ByteArray × ByteArray × Int × Int × ByteArray × Bool)
    (next : Ev (fun k => spec_ReadAsk.l1 k p s ((i + 1 : Nat) : Int) kind path dst off len text) r) (d : Nat) : ∀ j : Nat, j + d = p[i].size →
    Ev (fun k => spec_ReadAsk.l2 k p s (i : Int) (j : Int) kind path dst off len text) (if hasSp (p[i].data.toList.drop j) = true then ZR else r) := by
  have e0 := rdOf_get p i hi
  have hsz := sumS_mem (List.getElem_mem hi)
  have hlen : p[i].data.toList.length = p[i].size := by simp
  induction d with
  | zero =>
    intro j hj
    refine Ev.step (fun k => by rw [spec_ReadAsk.l2]) (Ev_pos (by omega) (Ev_pos (by omega) ?_))
    rw [e0]
    refine Ev_neg (by omega) ?_
    rw [List.drop_eq_nil_of_le (by omega)]
    rw [wrap_id (n := (i : Int) + 1) (by omega) (by omega)]
    exact next
  | succ d ih =>
    intro j hj
    have hlt : j < p[i].size := by omega
    have hb := bt_at' p[i] j hlt
    refine Ev.step (fun k => by rw [spec_ReadAsk.l2]) (Ev_pos (by omega) (Ev_pos (by omega) ?_))
    rw [e0]
    refine Ev_pos (by omega) (Ev_pos (by omega) ?_)
    rw [hb, List.drop_eq_getElem_cons (show j < p[i].data.toList.length by omega)]
    have hc : hasSp (p[i].data.toList[j] :: p[i].data.toList.drop (j + 1)) = (decide (p[i].data.toList[j] = 32) || hasSp (p[i].data.toList.drop (j + 1))) := rfl
    rw [hc]
    by_cases h : p[i].data.toList[j] = 32
    · refine Ev_pos (by rw [h]; rfl) (Ev_eq (Ev_now fun _ => rfl) ?_)
      rw [decide_eq_true h, Bool.true_or, if_pos rfl]; rfl
    · refine Ev_neg (fun e => h (UInt8.toNat.inj (by show _ = 32; omega))) ?_
      rw [decide_eq_false h, Bool.false_or, wrap_id (n := (j : Int) + 1) (by omega) (by omega)]
      exact ih (j + 1) (by omega)
theorem spec_words (hn : p ≠ []) (s : ByteArray) (d : Nat) : ∀ i : Nat, i + d = p.length →
    Ev (fun k => spec_ReadAsk.l1 k p s (i : Int) kind path dst off len text) (if anySp (p.drop i) = true then ZR else if s = Sb [] then ZR else if s = joinB p then (kind, path, dst, off, len, text, true) else ZR) := by
  induction d with
  | zero =>
    intro i hi
    have hi' : i = p.length := by omega
    subst hi'
    rw [List.drop_length]
    exact spec_tail p hp kind path dst off len text hn s
  | succ d ih =>
    intro i hi
    have hlt : i < p.length := by omega
    have this : Ev (fun k => spec_ReadAsk.l2 k p s (i : Int) 0 kind path dst off len text) _ := spec_bytes p hp kind path dst off len text s i hlt _ (ih (i + 1) (by omega)) p[i].size 0 (by omega)
    refine Ev.step (fun k => by rw [spec_ReadAsk.l1]) (Ev_pos (by omega) (Ev_eq this ?_))
    rw [List.drop_zero, List.drop_eq_getElem_cons hlt]
    have hc : anySp (p[i] :: p.drop (i + 1)) = (hasSp p[i].data.toList || anySp (p.drop (i + 1))) := rfl
    rw [hc]
    cases hasSp p[i].data.toList
    · rfl
    · rfl
include h1 h2 ho hl h3
theorem spec_end (hn : p ≠ []) : Ev (fun k => spec_ReadAsk.j2 k p kind path dst off len text) (finR p kind path dst off len text) := by
  refine Ev.step (fun k => by rw [spec_ReadAsk.j2]) (Ev.bind (spec_ask kind path dst off len text h1 h2 ho hl h3) ?_)
  refine Ev_eq (spec_words p hp kind path dst off len text hn _ p.length 0 (by omega)) ?_
  rw [List.drop_zero]
  unfold finR
  rw [fit_eq _ _ hn]
  cases anySp p
  · rw [Bool.not_false, Bool.true_and]
    by_cases hj : lineL kind path dst off len text = joinB p
    · rw [decide_eq_true hj]; simp [hj]
    · rw [decide_eq_false hj]; simp [hj]
  · simp
end
/-! ### the word of a kind -/
def kindL (w : ByteArray) : List ByteArray → Int → Int → Int
  | [], _, acc => acc
  | x :: t, i, acc => kindL w t (i + 1) (if x = w then i else acc)
def idxL (w : ByteArray) : List ByteArray → Int → Int
  | [], _ => -1
  | x :: t, i => if x = w then i else idxL w t (i + 1)
theorem impl_idx_loop (l : List ByteArray) (hl : l.length ≤ 1000) (w : ByteArray) (d : Nat) : ∀ i : Nat, i + d = l.length → Ev (fun k => slices_Index_string_string.l0 k l w (l.length : Int) (i : Int)) (idxL w (l.drop i) i) := by
  induction d with
  | zero =>
    intro i hi
    refine Ev.step (fun k => by rw [slices_Index_string_string.l0]) (Ev_neg (by omega) (Ev_eq (Ev_now fun _ => rfl) ?_))
    rw [List.drop_eq_nil_of_le (by omega)]; rfl
  | succ d ih =>
    intro i hi
    have hlt : i < l.length := by omega
    refine Ev.step (fun k => by rw [slices_Index_string_string.l0]) (Ev_pos (by omega) (Ev_pos (by omega) (Ev_pos (by omega) ?_)))
    rw [rdOf_get l i hlt, List.drop_eq_getElem_cons hlt, idxL]
    by_cases h : l[i] = w
    · exact Ev_eq (Ev_pos (by rw [h]) (Ev_now fun _ => rfl)) (by rw [if_pos h])
    · rw [if_neg h, wrap_id (n := (i : Int) + 1) (by omega) (by omega)]
      exact Ev_neg (fun e => h (toList_inj.1 e).symm) (ih (i + 1) (by omega))
theorem impl_idx (l : List ByteArray) (hl : l.length ≤ 1000) (w : ByteArray) : Ev (fun k => slices_Index_string_string.f k l w) (idxL w l 0) := by
  unfold slices_Index_string_string.f
  exact impl_idx_loop l hl w l.length 0 (by omega)
theorem kind_rel (w : ByteArray) : (idxL w wordsL 0 = kindL w (wordsL.drop 1) 1 0 ∧ 1 ≤ idxL w wordsL 0) ∨ (idxL w wordsL 0 ≤ 0 ∧ kindL w (wordsL.drop 1) 1 0 = 0) := by
  have hm : (∃ x ∈ wordsL, x = w) ∨ ∀ x ∈ wordsL, x ≠ w := by
    by_cases h : ∃ x ∈ wordsL, x = w
    · exact .inl h
    · exact .inr fun x hx e => h ⟨x, hx, e⟩
  rcases hm with ⟨x, hx, rfl⟩ | hno
  · have : ∀ x ∈ wordsL, (idxL x wordsL 0 = kindL x (wordsL.drop 1) 1 0 ∧ 1 ≤ idxL x wordsL 0) ∨ (idxL x wordsL 0 ≤ 0 ∧ kindL x (wordsL.drop 1) 1 0 = 0) := by decide +kernel
    exact this x hx
  · have hk : ∀ (l : List ByteArray), (∀ x ∈ l, x ≠ w) → ∀ i acc, kindL w l i acc = acc := by
      intro l
      induction l with
      | nil => intro _ i acc; rfl
      | cons x t ih => intro h i acc; rw [kindL, if_neg (h x List.mem_cons_self)]; exact ih (fun y hy => h y (List.mem_cons_of_mem _ hy)) _ _
    have hi : ∀ (l : List ByteArray), (∀ x ∈ l, x ≠ w) → ∀ i, idxL w l i = -1 := by
      intro l
      induction l with
      | nil => intro _ i; rfl
      | cons x t ih => intro h i; rw [idxL, if_neg (h x List.mem_cons_self)]; exact ih (fun y hy => h y (List.mem_cons_of_mem _ hy)) _
    exact .inr ⟨by rw [hi _ hno]; decide, hk _ (fun x hx => hno x (List.mem_of_mem_drop hx)) _ _⟩
theorem finR_none (p : List ByteArray) (kind : Int) (hk : kind ≤ 0) (path dst : ByteArray) (off len : Int) (text : ByteArray) : finR p kind path dst off len text = ZR := by
  unfold finR
  have : lineL kind path dst off len text = Sb [] := by
    unfold lineL okL
    rw [decide_eq_false (by omega)]
    simp
  rw [if_pos this]
/-! ### the fields by the kind -/
def thirdW (p : List ByteArray) : ByteArray := if p.length > 2 then rdOf ByteArray.empty p 2 else Sb []
def fourthW (p : List ByteArray) : ByteArray := if p.length > 3 then rdOf ByteArray.empty p 3 else Sb []
def fieldsR (p : List ByteArray) (kind : Int) : Int × ByteArray × ByteArray × Int × Int × ByteArray × Bool :=
  let path := rdOf ByteArray.empty p 1
  if kind = 5 then finR p kind path (thirdW p) 0 0 (Sb []) else if kind = 6 then finR p kind path (Sb []) (decR (thirdW p)).1 (decR (fourthW p)).1 (Sb [])
  else if kind = 7 then finR p kind path (Sb []) (decR (thirdW p)).1 0 (unR (fourthW p)).1 else if kind = 8 then finR p kind path (Sb []) 0 (decR (thirdW p)).1 (Sb []) else finR p kind path (Sb []) 0 0 (Sb [])
theorem dec_nil : (decR (Sb [])).1 = 0 := by decide +kernel
theorem un_nil : (unR (Sb [])).1 = Sb [] := by decide +kernel
theorem word_bound (p : List ByteArray) (hp : p.length + sumS p ≤ 1048576) (i : Nat) (h : i < p.length) : (rdOf ByteArray.empty p (i : Int)).size ≤ 1048576 := by
  rw [rdOf_get p i h]
  have := sumS_mem (List.getElem_mem h)
  omega
section
variable (p : List ByteArray) (hp : p.length + sumS p ≤ 1048576) (h2 : 2 ≤ p.length)
include hp h2
theorem third_bound : (thirdW p).size ≤ 1048576 := by
  unfold thirdW
  by_cases h : p.length > 2
  · rw [if_pos h]; exact word_bound p hp 2 h
  · rw [if_neg h]; decide
theorem fourth_bound : (fourthW p).size ≤ 1048576 := by
  unfold fourthW
  by_cases h : p.length > 3
  · rw [if_pos h]; exact word_bound p hp 3 h
  · rw [if_neg h]; decide
theorem impl_fields (kind : Int) : Ev (fun k => impl_ReadAsk.j2 k p (thirdW p) (fourthW p) kind (rdOf ByteArray.empty p 1) (⟨#[]⟩ : ByteArray) 0 0 (⟨#[]⟩ : ByteArray)) (fieldsR p kind) := by
  have b1 := word_bound p hp 1 (by omega)
  have b2 := third_bound p hp h2
  have b3 := fourth_bound p hp h2
  have d2 := decR_small (thirdW p)
  have d3 := decR_small (fourthW p)
  have u3 := unR_size (fourthW p)
  have z0 : (Sb []).size ≤ 1048576 := by decide
  refine Ev.step (fun k => by rw [impl_ReadAsk.j2]) ?_
  unfold fieldsR
  by_cases k5 : kind = 5
  · exact Ev_eq (Ev_pos k5 (impl_end p kind _ _ _ _ _ b1 b2 ⟨by decide, by decide⟩ ⟨by decide, by decide⟩ z0)) (by rw [if_pos k5]; rfl)
  refine Ev_neg k5 ?_
  by_cases k6 : kind = 6
  · exact Ev_eq (Ev_pos k6 (Ev_const (impl_rd _ b2) (Ev_const (impl_rd _ b3) (impl_end p kind _ _ _ _ _ b1 z0 ⟨by omega, by omega⟩ ⟨by omega, by omega⟩ z0)))) (by rw [if_neg k5, if_pos k6]; rfl)
  refine Ev_neg k6 ?_
  by_cases k7 : kind = 7
  · exact Ev_eq (Ev_pos k7 (Ev_const (impl_rd _ b2) (Ev_const (impl_un _ b3) (impl_end p kind _ _ _ _ _ b1 z0 ⟨by omega, by omega⟩ ⟨by decide, by decide⟩ (by omega))))) (by rw [if_neg k5, if_neg k6, if_pos k7]; rfl)
  refine Ev_neg k7 ?_
  by_cases k8 : kind = 8
  · exact Ev_eq (Ev_pos k8 (Ev_const (impl_rd _ b2) (impl_end p kind _ _ _ _ _ b1 z0 ⟨by decide, by decide⟩ ⟨by omega, by omega⟩ z0))) (by rw [if_neg k5, if_neg k6, if_neg k7, if_pos k8]; rfl)
  · exact Ev_eq (Ev_neg k8 (impl_end p kind _ _ _ _ _ b1 z0 ⟨by decide, by decide⟩ ⟨by decide, by decide⟩ z0)) (by rw [if_neg k5, if_neg k6, if_neg k7, if_neg k8]; rfl)
theorem spec_num2 : Ev (fun k => spec_l31Num.f k p 2) (decR (thirdW p)).1 := by
  unfold spec_l31Num.f thirdW
  by_cases h : p.length > 2
  · rw [if_pos h]
    exact Ev_neg (by omega) (Ev_pos (by omega) (Ev_pos (by omega) (Ev.bind (spec_rd _) (Ev_now fun _ => rfl))))
  · rw [if_neg h, dec_nil]
    exact Ev_pos (by omega) (Ev_now fun _ => rfl)
theorem spec_num3 : Ev (fun k => spec_l31Num.f k p 3) (decR (fourthW p)).1 := by
  unfold spec_l31Num.f fourthW
  by_cases h : p.length > 3
  · rw [if_pos h]
    exact Ev_neg (by omega) (Ev_pos (by omega) (Ev_pos (by omega) (Ev.bind (spec_rd _) (Ev_now fun _ => rfl))))
  · rw [if_neg h, dec_nil]
    exact Ev_pos (by omega) (Ev_now fun _ => rfl)
theorem spec_fields (kind : Int) : Ev (fun k => spec_ReadAsk.l0 k p wordsL 12 kind (rdOf ByteArray.empty p 1) (⟨#[]⟩ : ByteArray) 0 0 (⟨#[]⟩ : ByteArray)) (fieldsR p kind) := by
  have hn : p ≠ [] := fun e => by rw [e] at h2; simp at h2
  have b1 := word_bound p hp 1 (by omega)
  have b2 := third_bound p hp h2
  have b3 := fourth_bound p hp h2
  have d2 := decR_small (thirdW p)
  have d3 := decR_small (fourthW p)
  have u3 := unR_size (fourthW p)
  have z0 : (Sb []).size ≤ 1048576 := by decide
  refine Ev.step (fun k => by rw [spec_ReadAsk.l0]) (Ev_neg (by decide) ?_)
  unfold fieldsR
  by_cases k5 : kind = 5
  · refine Ev_eq (Ev_pos k5 ?_) (by rw [if_pos k5])
    have e := spec_end p hp kind (rdOf ByteArray.empty p 1) (thirdW p) 0 0 (Sb []) b1 b2 ⟨by decide, by decide⟩ ⟨by decide, by decide⟩ z0 hn
    by_cases h : p.length > 2
    · refine Ev_pos (by omega) (Ev_pos (by omega) ?_)
      have et : thirdW p = rdOf ByteArray.empty p 2 := by unfold thirdW; rw [if_pos h]
      rw [et] at e ⊢
      exact e
    · refine Ev_neg (by omega) ?_
      have et : thirdW p = Sb [] := by unfold thirdW; rw [if_neg h]
      rw [et] at e ⊢
      exact e
  refine Ev_neg k5 ?_
  by_cases k6 : kind = 6
  · exact Ev_eq (Ev_pos k6 (Ev.bind (spec_num2 p hp h2) (Ev.bind (spec_num3 p hp h2) (spec_end p hp kind _ _ _ _ _ b1 z0 ⟨by omega, by omega⟩ ⟨by omega, by omega⟩ z0 hn)))) (by rw [if_neg k5, if_pos k6]; rfl)
  refine Ev_neg k6 ?_
  by_cases k7 : kind = 7
  · refine Ev_eq (Ev_pos k7 (Ev.bind (spec_num2 p hp h2) ?_)) (by rw [if_neg k5, if_neg k6, if_pos k7])
    have e := spec_end p hp kind (rdOf ByteArray.empty p 1) (Sb []) (decR (thirdW p)).1 0 (unR (fourthW p)).1 b1 z0 ⟨by omega, by omega⟩ ⟨by decide, by decide⟩ (by omega) hn
    by_cases h : p.length > 3
    · refine Ev_pos (by omega) (Ev_pos (by omega) ?_)
      have et : fourthW p = rdOf ByteArray.empty p 3 := by unfold fourthW; rw [if_pos h]
      rw [et] at e ⊢
      exact Ev.bind (spec_un _ (word_bound p hp 3 h)) e
    · refine Ev_neg (by omega) ?_
      have et : fourthW p = Sb [] := by unfold fourthW; rw [if_neg h]
      rw [et, un_nil] at e ⊢
      exact e
  refine Ev_neg k7 ?_
  by_cases k8 : kind = 8
  · exact Ev_eq (Ev_pos k8 (Ev.bind (spec_num2 p hp h2) (spec_end p hp kind _ _ _ _ _ b1 z0 ⟨by decide, by decide⟩ ⟨by omega, by omega⟩ z0 hn))) (by rw [if_neg k5, if_neg k6, if_neg k7, if_pos k8]; rfl)
  · exact Ev_eq (Ev_neg k8 (spec_end p hp kind _ _ _ _ _ b1 z0 ⟨by decide, by decide⟩ ⟨by decide, by decide⟩ z0 hn)) (by rw [if_neg k5, if_neg k6, if_neg k7, if_neg k8]; rfl)
theorem spec_kind_loop (d : Nat) : ∀ (i : Nat) (acc : Int), i + d = 12 → Ev (fun k => spec_ReadAsk.l0 k p wordsL (i : Int) acc (rdOf ByteArray.empty p 1) (⟨#[]⟩ : ByteArray) 0 0 (⟨#[]⟩ : ByteArray)) (fieldsR p (kindL (rdOf ByteArray.empty p 0) (wordsL.drop i) i acc)) := by
  have hw : wordsL.length = 12 := rfl
  induction d with
  | zero =>
    intro i acc hi
    have : i = 12 := by omega
    subst this
    exact spec_fields p hp h2 acc
  | succ d ih =>
    intro i acc hi
    have hlt : i < wordsL.length := by omega
    refine Ev.step (fun k => by rw [spec_ReadAsk.l0]) (Ev_pos (by omega) (Ev_pos (by omega) (Ev_pos (by omega) ?_)))
    rw [rdOf_get wordsL i hlt, List.drop_eq_getElem_cons hlt, kindL, wrap_id (n := (i : Int) + 1) (by omega) (by omega)]
    by_cases h : wordsL[i] = rdOf ByteArray.empty p 0
    · rw [if_pos h]
      exact Ev_pos (by rw [h]) (ih (i + 1) _ (by omega))
    · rw [if_neg h]
      exact Ev_neg (fun e => h (toList_inj.1 e)) (ih (i + 1) _ (by omega))
end
def readR (p : List ByteArray) : Int × ByteArray × ByteArray × Int × Int × ByteArray × Bool :=
  if 2 ≤ p.length ∧ p.length ≤ 4 then fieldsR p (kindL (rdOf ByteArray.empty p 0) (wordsL.drop 1) 1 0) else ZR
theorem spec_readask (p : List ByteArray) (hp : p.length + sumS p ≤ 1048576) : Ev (fun k => spec_ReadAsk.f k p) (readR p) := by
  unfold spec_ReadAsk.f readR
  by_cases h2 : 2 ≤ p.length
  · refine Ev_neg (by omega) (Ev.step (fun k => by rw [spec_ReadAsk.j0]) ?_)
    by_cases h4 : p.length ≤ 4
    · refine Ev_neg (by simp; omega) (Ev_const (a := wordsL) rfl (Ev_pos (by omega) ?_))
      rw [if_pos ⟨h2, h4⟩]
      exact spec_kind_loop p hp h2 11 1 0 (by omega)
    · exact Ev_eq (Ev_pos (by simp; omega) (Ev_now fun _ => rfl)) (by rw [if_neg (fun e => h4 e.2)]; rfl)
  · exact Ev_eq (Ev_pos (by omega) (Ev.step (fun k => by rw [spec_ReadAsk.j0]) (Ev_pos rfl (Ev_now fun _ => rfl)))) (by rw [if_neg (fun e => h2 e.1)]; rfl)
theorem fieldsR_none (p : List ByteArray) (kind : Int) (h : kind ≤ 0) : fieldsR p kind = ZR := by
  unfold fieldsR
  simp only [finR_none _ _ h, ite_self]
theorem impl_readask (p : List ByteArray) (hp : p.length + sumS p ≤ 1048576) : Ev (fun k => impl_ReadAsk.f k p) (readR p) := by
  unfold impl_ReadAsk.f readR
  by_cases h2 : 2 ≤ p.length
  · refine Ev_neg (by omega) (Ev.step (fun k => by rw [impl_ReadAsk.j0]) ?_)
    by_cases h4 : p.length ≤ 4
    · refine Ev_neg (by simp; omega) (Ev_const (a := wordsL) rfl (Ev_pos (by omega) (Ev.bind (impl_idx wordsL (by decide) _) (Ev_pos (by omega) ?_))))
      rw [if_pos ⟨h2, h4⟩]
      have key : fieldsR p (idxL (rdOf ByteArray.empty p 0) wordsL 0) = fieldsR p (kindL (rdOf ByteArray.empty p 0) (wordsL.drop 1) 1 0) := by
        rcases kind_rel (rdOf ByteArray.empty p 0) with ⟨e, _⟩ | ⟨e, e2⟩
        · rw [e]
        · rw [fieldsR_none _ _ e, e2, fieldsR_none _ _ (Int.le_refl _)]
      rw [← key]
      have e := impl_fields p hp h2 (idxL (rdOf ByteArray.empty p 0) wordsL 0)
      have last : Ev (fun k => impl_ReadAsk.j1 k p (thirdW p) (⟨#[]⟩ : ByteArray) (idxL (rdOf ByteArray.empty p 0) wordsL 0) (rdOf ByteArray.empty p 1) (⟨#[]⟩ : ByteArray) 0 0 (⟨#[]⟩ : ByteArray)) (fieldsR p (idxL (rdOf ByteArray.empty p 0) wordsL 0)) := by
        refine Ev.step (fun k => by rw [impl_ReadAsk.j1]) ?_
        by_cases h : p.length > 3
        · refine Ev_pos (by omega) (Ev_pos (by omega) ?_)
          have et : fourthW p = rdOf ByteArray.empty p 3 := by unfold fourthW; rw [if_pos h]
          rw [et] at e
          exact e
        · refine Ev_neg (by omega) ?_
          have et : fourthW p = Sb [] := by unfold fourthW; rw [if_neg h]
          rw [et] at e
          exact e
      by_cases h : p.length > 2
      · refine Ev_pos (by omega) (Ev_pos (by omega) ?_)
        have et : thirdW p = rdOf ByteArray.empty p 2 := by unfold thirdW; rw [if_pos h]
        rw [et] at last
        exact last
      · refine Ev_neg (by omega) ?_
        have et : thirdW p = Sb [] := by unfold thirdW; rw [if_neg h]
        rw [et] at last
        exact last
    · exact Ev_eq (Ev_pos (by simp; omega) (Ev_now fun _ => rfl)) (by rw [if_neg (fun e => h4 e.2)]; rfl)
  · exact Ev_eq (Ev_pos (by omega) (Ev.step (fun k => by rw [impl_ReadAsk.j0]) (Ev_pos rfl (Ev_now fun _ => rfl)))) (by rw [if_neg (fun e => h2 e.1)]; rfl)

/-! ### the law -/
theorem pure : ∀ (x0 : List ByteArray), (fun l => l.length ≤ 9223372036854775807 ∧ ∀ b ∈ l, (fun s => s.size ≤ maxLen) b) x0 → ∃ k, laws_FnExactReadAsk.f k x0 = some true := by
  rintro p ⟨hl, hs⟩
  refine Ev.rounds ?_
  unfold laws_FnExactReadAsk.f
  obtain ⟨t, e, h⟩ := sz_strs p hl (fun b hb => by have h9 : b.size ≤ maxLen := hs b hb; unfold maxLen at h9; omega) 1048576 (by decide) (by decide)
  refine Ev.bind e ?_
  by_cases hn : t < 0
  · exact Ev_pos hn (Ev_now fun _ => rfl)
  have hp : p.length + sumS p ≤ 1048576 := by have := h.resolve_left hn; omega
  have cp := copy_strs p (by omega)
  refine Ev_neg hn (Ev.bind cp (Ev.bind (spec_readask p hp) (Ev.bind cp (Ev.bind (impl_readask p hp) ?_))))
  generalize readR p = r
  obtain ⟨r1, r2, r3, r4, r5, r6, r7⟩ := r
  have eq : laws_eqAsk.f r1 r2 r3 r4 r5 r6 r1 r2 r3 r4 r5 r6 = some true := by
    unfold laws_eqAsk.f
    simp
  refine Ev_const eq (Ev_pos rfl ?_)
  refine Ev.step (fun k => by rw [laws_FnExactReadAsk.j0]) (Ev_neg (by simp) (Ev.bind cp (Ev.bind (eq_strs p (by omega)) (Ev_pos rfl (Ev_now fun _ => rfl)))))

end Go.Proofs.YtggfonljcbmjmaaDoor.PFnExactReadAsk
