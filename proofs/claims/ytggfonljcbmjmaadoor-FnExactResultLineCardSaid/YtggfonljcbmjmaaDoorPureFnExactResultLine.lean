import Derived.Test.YtggfonljcbmjmaaDoorPFnExactResultLinex4
import Derived.Test.YtggfonljcbmjmaaDoorOFnExactResultLine
import Derived.Lib.HexFns
import Derived.Lib.ItoaLen
import Derived.Lib.ItoaMem
import Derived.Lib.LazyBuf
import Derived.Lib.Strings
import Derived.Lib.Join
namespace Go.Proofs.YtggfonljcbmjmaaDoor.PFnExactResultLine
open Go.RowKit Go.Proofs.YtggfonljcbmjmaaDoorW.PrintWords Go.Proofs.YtggfonljcbmjmaaDoorW.PrintLast Go.Proofs.YtggfonljcbmjmaaDoorW.PrintMore
set_option linter.unusedVariables false
set_option linter.unusedSimpArgs false
set_option linter.unusedSectionVars false

/-! ### numbers, bytes, rounds -/
theorem wf_i64 {n : Int} (h : (Lit.int .i64 n).wf = true) : -9223372036854775808 ≤ n ∧ n ≤ 9223372036854775807 := by
  simpa [Lit.wf, IntKind.min, IntKind.max, IntKind.signed, IntKind.bits] using h
theorem wrap_id {n : Int} (h0 : -9223372036854775808 ≤ n) (h1 : n ≤ 9223372036854775807) : wrap64 n = n := by unfold wrap64; omega
/-- A string by its bytes. -/
def Sb (l : List UInt8) : ByteArray := ⟨l.toArray⟩
theorem Sb_toList (l : List UInt8) : (Sb l).toList = l := by rw [Lib.toList_data]; rfl
theorem Sb_size (l : List UInt8) : (Sb l).size = l.length := by simp [Sb, ByteArray.size]
theorem Sb_append (a b : List UInt8) : Sb a ++ Sb b = Sb (a ++ b) := by
  apply ByteArray.ext
  simp [Sb]
theorem Sb_of (s : ByteArray) : s = Sb s.data.toList := by
  cases s with
  | mk d => simp [Sb]
theorem toList_inj {a b : ByteArray} : a.toList = b.toList ↔ a = b := by
  constructor
  · intro h
    rw [Lib.toList_data, Lib.toList_data] at h
    cases a; cases b
    congr 1
    exact Array.toList_inj.1 h
  · rintro rfl; rfl
theorem toList_nil {a : ByteArray} : a.toList = ([] : List UInt8) ↔ a = Sb [] := by
  have h := @toList_inj a (Sb [])
  rw [Sb_toList] at h
  exact h
theorem beq_toList (a b : ByteArray) : (a.toList == b.toList) = decide (a = b) := by
  rw [Bool.eq_iff_iff, beq_iff_eq, decide_eq_true_iff]
  exact toList_inj
theorem Ev_now {α : Type} {g : Nat → Option α} {r : α} (h : ∀ k, g k = some r) : Ev g r := ⟨0, fun k _ => h k⟩
theorem Ev_pos {α : Type} {c : Prop} {i : Decidable c} {f g : Nat → Option α} {r : α} (hc : c) (h : Ev f r) : Ev (fun k => @ite _ c i (f k) (g k)) r := by
  simp only [if_pos hc]; exact h
theorem Ev_neg {α : Type} {c : Prop} {i : Decidable c} {f g : Nat → Option α} {r : α} (hc : ¬ c) (h : Ev g r) : Ev (fun k => @ite _ c i (f k) (g k)) r := by
  simp only [if_neg hc]; exact h
theorem Ev_const {α β : Type} {x : Option α} {a : α} {f : Nat → α → Option β} {r : β} (hx : x = some a) (h : Ev (fun k => f k a) r) : Ev (fun k => x.bind (f k)) r := by
  subst hx; exact h
theorem Ev_ite {α : Type} {c : Prop} {i : Decidable c} {f g : Nat → Option α} {a b : α} (h : c → Ev f a) (h' : ¬ c → Ev g b) : Ev (fun k => @ite _ c i (f k) (g k)) (if c then a else b) := by
  by_cases hc : c
  · simp only [if_pos hc]; exact h hc
  · simp only [if_neg hc]; exact h' hc
theorem Ev_eq {α : Type} {g : Nat → Option α} {r r' : α} (h : Ev g r) (e : r = r') : Ev g r' := e ▸ h
theorem bt_Sb (l : List UInt8) (i : Nat) (h : i < l.length) : bt (Sb l) i = (l[i].toNat : Int) := by
  unfold bt
  rw [dif_pos (by rw [Sb_size]; simpa using h)]
  rfl
theorem bt_at' (s : ByteArray) (i : Nat) (h : i < s.size) : bt s i = ((s.data.toList[i]'(by simpa using h)).toNat : Int) := by
  unfold bt
  rw [dif_pos (by simpa using h)]
  rfl

/-! ### the reference's numerals -/
theorem spec_fig (d : Int) (h0 : 0 ≤ d) (h : d < 10) : spec_l01Figure.f d = some (48 + d) := by
  unfold spec_l01Figure.f
  rw [if_pos h, wrap_id (by omega) (by omega)]
  congr 1; omega
theorem spec_fig_hex (d : Nat) (h : d < 16) : spec_l01Figure.f d = some ((Lib.Hx.digit d).toNat : Int) := by
  unfold spec_l01Figure.f
  have : d = 0 ∨ d = 1 ∨ d = 2 ∨ d = 3 ∨ d = 4 ∨ d = 5 ∨ d = 6 ∨ d = 7 ∨ d = 8 ∨ d = 9 ∨ d = 10 ∨ d = 11 ∨ d = 12 ∨ d = 13 ∨ d = 14 ∨ d = 15 := by omega
  rcases this with rfl | rfl | rfl | rfl | rfl | rfl | rfl | rfl | rfl | rfl | rfl | rfl | rfl | rfl | rfl | rfl <;> decide +kernel
theorem nums_one (d : Nat) (h : d < 10) : strOfNums ([48 + (d : Int)] : List Int) = Sb [UInt8.ofNat (48 + d)] := by
  have e : (48 + (d : Int)).toNat = 48 + d := by omega
  unfold strOfNums Sb
  simp [e]
theorem dec_loop (below : Bool) (u : Nat) : ∀ (x : Int) (acc : ByteArray), (x = u ∨ x = -(u : Int)) → 0 < u → u ≤ 9223372036854775808 → (u = 9223372036854775808 → x < 0) → acc.size + Lib.nDigits u ≤ 1000 →
    Ev (fun k => spec_Decimal.l0 k x below acc) (if below = true then (⟨#[45]⟩ : ByteArray) ++ (Sb (Lib.decDigits u) ++ acc) else Sb (Lib.decDigits u) ++ acc) := by
  induction u using Nat.strongRecOn with
  | _ u ih =>
  intro x acc hx hu hm hm2 hs
  refine Ev.step (fun k => by rw [spec_Decimal.l0]) ?_
  refine Ev_neg (by omega) ?_
  have hd : Int.tmod x 10 = (if x < 0 then -((u % 10 : Nat) : Int) else ((u % 10 : Nat) : Int)) := by
    rcases hx with rfl | rfl
    · rw [if_neg (by omega), Int.tmod_eq_emod_of_nonneg (by omega)]; omega
    · rw [if_pos (by omega), Int.neg_tmod, Int.tmod_eq_emod_of_nonneg (by omega)]; omega
  have hq : Int.tdiv x 10 = (if x < 0 then -((u / 10 : Nat) : Int) else ((u / 10 : Nat) : Int)) := by
    rcases hx with rfl | rfl
    · rw [if_neg (by omega), Int.tdiv_eq_ediv_of_nonneg (by omega)]; omega
    · rw [if_pos (by omega), Int.neg_tdiv, Int.tdiv_eq_ediv_of_nonneg (by omega)]; omega
  have hw : wrap64 (Int.tdiv x 10) = Int.tdiv x 10 := wrap_id (by rw [hq]; split <;> omega) (by rw [hq]; split <;> omega)
  have hlen : (Sb [UInt8.ofNat (48 + u % 10)]).size = 1 := by rw [Sb_size]; rfl
  have hstep : Ev (fun k => spec_Decimal.l0 k (wrap64 (Int.tdiv x 10)) below (Sb [UInt8.ofNat (48 + u % 10)] ++ acc)) (if below = true then (⟨#[45]⟩ : ByteArray) ++ (Sb (Lib.decDigits u) ++ acc) else Sb (Lib.decDigits u) ++ acc) := by
    by_cases h10 : u < 10
    · have hz : wrap64 (Int.tdiv x 10) = 0 := by rw [hw, hq]; split <;> omega
      rw [hz]
      have hdd : Lib.decDigits u = [UInt8.ofNat (48 + u % 10)] := by rw [Lib.decDigits_one h10, Nat.mod_eq_of_lt h10]
      rw [hdd]
      refine Ev.step (fun k => by rw [spec_Decimal.l0]) ?_
      refine Ev_pos rfl ?_
      have hsz : (Sb [UInt8.ofNat (48 + u % 10)] ++ acc).size ≤ 1001 := by rw [ByteArray.size_append, hlen]; omega
      cases below with
      | true =>
        refine Ev_pos rfl ?_
        refine Ev_pos (by omega) ?_
        exact Ev_now fun k => rfl
      | false => exact Ev_neg (by simp) (Ev_now fun k => rfl)
    · have hdd : Lib.decDigits u = Lib.decDigits (u / 10) ++ [UInt8.ofNat (48 + u % 10)] := by rw [Lib.decDigits, dif_neg h10]
      have hnd := Lib.nDigits_big h10
      rw [hdd, ← Sb_append, ByteArray.append_assoc]
      refine ih (u / 10) (by omega) _ _ ?_ (by omega) (by omega) (by omega) (by rw [ByteArray.size_append, hlen]; omega)
      rw [hw, hq]
      split
      · exact .inr rfl
      · exact .inl rfl
  have h1 : ∀ t : Int, t = ((u % 10 : Nat) : Int) → spec_l01Figure.f t = some (48 + ((u % 10 : Nat) : Int)) := fun t ht => by
    rw [ht]; exact spec_fig _ (by omega) (by omega)
  have hsum : (Sb [UInt8.ofNat (48 + u % 10)]).size + acc.size ≤ 9223372036854775807 := by rw [hlen]; omega
  by_cases hneg : Int.tmod x 10 < 0
  · refine Ev_pos hneg ?_
    have ht : wrap64 (-(Int.tmod x 10)) = ((u % 10 : Nat) : Int) := by
      rw [wrap_id (by omega) (by rw [hd]; split <;> omega), hd]; rw [hd] at hneg; split at hneg <;> split <;> omega
    refine Ev_const (h1 _ ht) ?_
    refine Ev_const rfl ?_
    rw [nums_one _ (by omega)]
    exact Ev_pos hsum hstep
  · refine Ev_neg hneg ?_
    have ht : Int.tmod x 10 = ((u % 10 : Nat) : Int) := by
      rw [hd]; rw [hd] at hneg; split at hneg <;> split <;> omega
    refine Ev_const (h1 _ ht) ?_
    refine Ev_const rfl ?_
    rw [nums_one _ (by omega)]
    exact Ev_pos hsum hstep
theorem nDigits_le (u : Nat) (h : u ≤ 9223372036854775808) : Lib.nDigits u ≤ 21 := by
  have := Lib.itoa_length_le (-(u : Int)) (by omega) (by omega)
  by_cases h0 : 1 ≤ u
  · rw [Lib.itoa_neg u h0, List.length_cons, Lib.decDigits_length] at this; omega
  · obtain rfl : u = 0 := by omega
    rw [Lib.nDigits_small (by omega)]; omega
theorem spec_dec (n : Int) (h0 : -9223372036854775808 ≤ n) (h1 : n ≤ 9223372036854775807) : Ev (fun k => spec_Decimal.f k n) (Sb (Lib.itoa n)) := by
  unfold spec_Decimal.f
  by_cases hz : n = 0
  · subst hz
    exact Ev_pos rfl (Ev_now fun k => by rw [show (0 : Int) = ((0 : Nat) : Int) from rfl, Lib.itoa_nonneg, Lib.decDigits_one (by omega)]; rfl)
  · refine Ev_neg hz ?_
    refine Ev_eq (dec_loop _ n.natAbs n _ (by omega) (by omega) (by omega) (by omega) ?_) ?_
    · have := nDigits_le n.natAbs (by omega)
      show 0 + _ ≤ _
      omega
    · have he : ∀ l, Sb l ++ (⟨#[]⟩ : ByteArray) = Sb l := fun l => by rw [show (⟨#[]⟩ : ByteArray) = Sb [] from rfl, Sb_append, List.append_nil]
      unfold Lib.itoa
      by_cases hn : n < 0
      · rw [if_pos (by simpa using hn), if_pos hn, he, show (⟨#[45]⟩ : ByteArray) = Sb [45] from rfl, Sb_append]; rfl
      · rw [if_neg (by simpa using hn), if_neg hn, he, show n.natAbs = n.toNat by omega]
theorem dec_size (n : Int) (h0 : -9223372036854775808 ≤ n) (h1 : n ≤ 9223372036854775807) : (Sb (Lib.itoa n)).size ≤ 21 := by
  rw [Sb_size]; exact Lib.itoa_length_le n h0 h1

/-! ### the reference's hexadecimal texts -/
theorem strOf_bytes (l : List UInt8) : strOfNums (l.map fun b => (b.toNat : Int)) = Sb l := by
  unfold strOfNums Sb
  rw [List.map_map]
  congr 2
  conv => rhs; rw [← List.map_id l]
  apply List.map_congr_left
  intro b _
  simp
theorem hex_loop (s : ByteArray) (hs : s.size ≤ 20000) (d : Nat) : ∀ (i : Nat) (acc : List UInt8), i + d = s.size → acc.length = 2 * i →
    Ev (fun k => spec_Hex.l0 k s (acc.map fun b => (b.toNat : Int)) (i : Int)) (Sb (acc ++ Lib.Hx.encode (s.data.toList.drop i)), true) := by
  induction d with
  | zero =>
    intro i acc hi ha
    refine Ev.step (fun k => by rw [spec_Hex.l0]) ?_
    refine Ev_neg (by omega) (Ev_now fun k => ?_)
    rw [List.drop_of_length_le (by simp; omega), strOf_bytes]
    simp [Lib.Hx.encode]
  | succ d ih =>
    intro i acc hi ha
    have hlt : i < s.size := by omega
    have hb := bt_at' s i hlt
    have hget : i < s.data.toList.length := by simpa using hlt
    generalize hv : s.data.toList[i] = v at hb
    have hdrop : s.data.toList.drop i = v :: s.data.toList.drop (i + 1) := by rw [← hv]; exact List.drop_eq_getElem_cons hget
    have hvlt : v.toNat < 256 := v.toNat_lt
    have hw : wrap64 (bt s i) = ((v.toNat : Nat) : Int) := by rw [hb]; exact wrap_id (by omega) (by omega)
    refine Ev.step (fun k => by rw [spec_Hex.l0]) ?_
    refine Ev_pos (by omega) (Ev_pos (by omega) ?_)
    refine Ev_const (a := ((Lib.Hx.digit (v.toNat / 16)).toNat : Int)) ?_ ?_
    · rw [hw, Int.tdiv_eq_ediv_of_nonneg (by omega), wrap_id (by omega) (by omega), ← spec_fig_hex _ (by omega)]; congr 1
    refine Ev_const (a := ((Lib.Hx.digit (v.toNat % 16)).toNat : Int)) ?_ ?_
    · rw [hw, Int.tmod_eq_emod_of_nonneg (by omega), ← spec_fig_hex _ (by omega)]; congr 1
    refine Ev_const rfl ?_
    refine Ev_pos (by simp [ha]; omega) ?_
    rw [show wrap64 ((i : Int) + 1) = ((i + 1 : Nat) : Int) by rw [wrap_id (by omega) (by omega)]; omega]
    have := ih (i + 1) (acc ++ [Lib.Hx.digit (v.toNat / 16), Lib.Hx.digit (v.toNat % 16)]) (by omega) (by simp [ha]; omega)
    rw [hdrop, Lib.Hx.encode_cons]
    simpa using this
def hexB (s : ByteArray) : ByteArray := Sb (Lib.Hx.encode s.data.toList)
theorem spec_hex (s : ByteArray) (hs : s.size ≤ 20000) : Ev (fun k => spec_Hex.f k s) (hexB s, true) := by
  unfold spec_Hex.f
  refine Ev_neg (by omega) ?_
  have := hex_loop s hs s.size 0 [] (by omega) rfl
  simpa [hexB] using this
theorem encode_len (l : List UInt8) : (Lib.Hx.encode l).length = 2 * l.length := by
  induction l with
  | nil => rfl
  | cons a t ih => rw [Lib.Hx.encode_cons, List.length_cons, List.length_cons, ih, List.length_cons]; omega
theorem hexB_size (s : ByteArray) : (hexB s).size = 2 * s.size := by unfold hexB; rw [Sb_size, encode_len, Array.length_toList]; rfl
theorem hexB_nil (s : ByteArray) : (hexB s).toList = ([] : List UInt8) ↔ s.size = 0 := by
  have h := hexB_size s
  rw [toList_nil]
  constructor
  · intro e; rw [e] at h; have : (Sb []).size = 0 := Sb_size []; omega
  · intro e
    have h0 : (hexB s).size = 0 := by omega
    unfold hexB at h0 ⊢
    rw [Sb_size] at h0
    rw [List.length_eq_zero_iff.1 h0]

/-! ### lists of strings: their size, their copy, their compare -/
def sumS (l : List ByteArray) : Nat := (l.map (·.size)).sum
theorem sumS_cons (a : ByteArray) (l : List ByteArray) : sumS (a :: l) = a.size + sumS l := by unfold sumS; simp
theorem sumS_mem {a : ByteArray} {l : List ByteArray} (h : a ∈ l) : a.size ≤ sumS l := by
  induction l with
  | nil => cases h
  | cons b t ih =>
    rw [sumS_cons]
    rcases List.mem_cons.1 h with rfl | h
    · omega
    · have := ih h; omega
theorem rdOf_get (l : List ByteArray) (i : Nat) (h : i < l.length) : rdOf ByteArray.empty l (i : Int) = l[i] := by
  unfold rdOf
  rw [List.getD_eq_getElem?_getD, show ((i : Int)).toNat = i from rfl, List.getElem?_eq_getElem h]
  rfl
theorem sz_strs_loop (l : List ByteArray) (hl : l.length ≤ 1048576) (hs : ∀ b ∈ l, b.size ≤ 9223372036854775807) (d : Nat) : ∀ (i : Nat) (x1 : Int), i + d = l.length → 0 ≤ x1 → x1 ≤ 1048576 →
    ∃ t, Ev (fun k => laws_szStringS.l0 k l x1 (i : Int)) t ∧ (t < 0 ∨ (t ≤ x1 ∧ (sumS (l.drop i) : Int) ≤ x1)) := by
  induction d with
  | zero =>
    intro i x1 hi h0 h1
    refine ⟨x1, Ev.step (fun k => by rw [laws_szStringS.l0]) (Ev_neg (by omega) (Ev_now fun _ => rfl)), .inr ⟨by omega, ?_⟩⟩
    rw [List.drop_eq_nil_of_le (by omega)]
    exact h0
  | succ d ih =>
    intro i x1 hi h0 h1
    have hlt : i < l.length := by omega
    have hb := hs l[i] (List.getElem_mem hlt)
    have e0 := rdOf_get l i hlt
    by_cases hn : x1 - (l[i].size : Int) < 0
    · refine ⟨-1, Ev.step (fun k => by rw [laws_szStringS.l0]) (Ev_pos (by omega) (Ev_pos (by omega) ?_)), .inl (by omega)⟩
      refine Ev_pos ?_ (Ev_now fun _ => rfl)
      rw [e0, wrap_id (by omega) (by omega)]
      exact hn
    · obtain ⟨t, ht, hq⟩ := ih (i + 1) (x1 - (l[i].size : Int)) (by omega) (by omega) (by omega)
      refine ⟨t, Ev.step (fun k => by rw [laws_szStringS.l0]) (Ev_pos (by omega) (Ev_pos (by omega) ?_)), hq.imp_right fun hq => ?_⟩
      · rw [e0, wrap_id (n := x1 - (l[i].size : Int)) (by omega) (by omega), wrap_id (n := (i : Int) + 1) (by omega) (by omega)]
        exact Ev_neg hn ht
      · rw [List.drop_eq_getElem_cons hlt, sumS_cons]
        push_cast
        omega
theorem sz_strs (l : List ByteArray) (hl : l.length ≤ 9223372036854775807) (hs : ∀ b ∈ l, b.size ≤ 9223372036854775807) (a1 : Int) (h0 : 0 ≤ a1) (h1 : a1 ≤ 1048576) :
    ∃ t, Ev (fun k => laws_szStringS.f k l a1) t ∧ (t < 0 ∨ (l.length : Int) + (sumS l : Int) ≤ a1) := by
  unfold laws_szStringS.f
  have e : wrap64 (a1 - (l.length : Int)) = a1 - (l.length : Int) := wrap_id (by omega) (by omega)
  by_cases hn : a1 - (l.length : Int) < 0
  · exact ⟨-1, Ev_pos (by rw [e]; exact hn) (Ev_now fun _ => rfl), .inl (by omega)⟩
  · obtain ⟨t, ht, hq⟩ := sz_strs_loop l (by omega) hs l.length 0 (a1 - (l.length : Int)) (by omega) (by omega) (by omega)
    rw [e]
    refine ⟨t, Ev_neg hn ht, hq.imp_right fun hq => ?_⟩
    rw [List.drop_zero] at hq
    omega
theorem copy_strs_loop (l : List ByteArray) (hl : l.length ≤ 1048576) (d : Nat) : ∀ (i : Nat) (x3 : List ByteArray), i + d = l.length → x3.length = l.length → x3.take i = l.take i →
    Ev (fun k => laws_toStringS.l0 k l x3 (i : Int)) l := by
  induction d with
  | zero =>
    intro i x3 hi h0 h1
    refine Ev.step (fun k => by rw [laws_toStringS.l0]) (Ev_neg (by omega) (Ev_eq (Ev_now fun _ => rfl) ?_))
    rw [List.take_of_length_le (by omega), List.take_of_length_le (by omega)] at h1
    exact h1
  | succ d ih =>
    intro i x3 hi h0 h1
    have hlt : i < l.length := by omega
    refine Ev.step (fun k => by rw [laws_toStringS.l0]) (Ev_pos (by omega) (Ev_pos (by omega) (Ev_pos (by omega) ?_)))
    rw [rdOf_get l i hlt, wrap_id (n := (i : Int) + 1) (by omega) (by omega), show ((i : Int)).toNat = i from rfl]
    refine ih (i + 1) _ (by omega) (by simpa using h0) ?_
    rw [List.take_succ_eq_append_getElem (by simp; omega), List.take_succ_eq_append_getElem hlt, List.take_set_of_le (by omega), h1]
    simp
theorem copy_strs (l : List ByteArray) (hl : l.length ≤ 1048576) : Ev (fun k => laws_toStringS.f k l) l := by
  unfold laws_toStringS.f
  refine Ev_pos (by omega) (Ev_pos (by omega) ?_)
  exact copy_strs_loop l hl l.length 0 _ (by omega) (by simp) rfl
theorem eq_strs_loop (l : List ByteArray) (hl : l.length ≤ 1048576) (d : Nat) : ∀ (i : Nat), i + d = l.length → Ev (fun k => laws_eqStringS.l0 k l l (i : Int)) true := by
  induction d with
  | zero => intro i hi; exact Ev.step (fun k => by rw [laws_eqStringS.l0]) (Ev_neg (by omega) (Ev_now fun _ => rfl))
  | succ d ih =>
    intro i hi
    refine Ev.step (fun k => by rw [laws_eqStringS.l0]) (Ev_pos (by omega) (Ev_pos (by omega) (Ev_pos (by omega) (Ev_pos rfl ?_))))
    rw [wrap_id (n := (i : Int) + 1) (by omega) (by omega)]
    exact ih (i + 1) (by omega)
theorem eq_strs (l : List ByteArray) (hl : l.length ≤ 1048576) : Ev (fun k => laws_eqStringS.f k l l) true := by
  unfold laws_eqStringS.f
  exact Ev_pos rfl (eq_strs_loop l hl l.length 0 (by omega))

/-! ### the line of a result -/
theorem sz_result (code : Int) (text : ByteArray) (size : Int) (dir : Bool) (names : List ByteArray) (ht : text.size ≤ maxLen) (hn : names.length ≤ 9223372036854775807 ∧ ∀ b ∈ names, b.size ≤ maxLen) :
    ∃ t, Ev (fun k => laws_szResult.f k code text size dir names 1048576) t ∧ (t < 0 ∨ (text.size ≤ 1048576 ∧ names.length + sumS names ≤ 1048576)) := by
  unfold maxLen at ht hn
  unfold laws_szResult.f
  have e : wrap64 (1048576 - (text.size : Int)) = 1048576 - (text.size : Int) := wrap_id (by omega) (by omega)
  by_cases h1 : 1048576 - (text.size : Int) < 0
  · exact ⟨-1, Ev_pos (by rw [e]; exact h1) (Ev_now fun _ => rfl), .inl (by omega)⟩
  · obtain ⟨t, h2, h3⟩ := sz_strs names hn.1 (fun b hb => by have := hn.2 b hb; omega) (1048576 - (text.size : Int)) (by omega) (by omega)
    rw [e]
    by_cases hq : t < 0
    · exact ⟨-1, Ev_neg h1 (Ev.bind h2 (Ev_pos hq (Ev_now fun _ => rfl))), .inl (by omega)⟩
    · exact ⟨t, Ev_neg h1 (Ev.bind h2 (Ev_neg hq (Ev_now fun _ => rfl))), .inr ⟨by omega, by have := h3.resolve_left hq; omega⟩⟩
def Sp : ByteArray := ⟨#[32]⟩
def decB (n : Int) : ByteArray := Sb (Lib.itoa n)
def dashB (s : ByteArray) : ByteArray := if s.size = 0 ∨ s.size > 20000 then (⟨#[45]⟩ : ByteArray) else hexB s
def codeW : ByteArray := ⟨#[99, 111, 100, 101, 32]⟩
def headL (code : Int) (text : ByteArray) (size : Int) (dir : Bool) : ByteArray :=
  let s := codeW ++ decB code ++ Sp ++ dashB text ++ Sp ++ decB size
  if dir = true then s ++ (⟨#[32, 100, 105, 114]⟩ : ByteArray) else s
def tailL (names : List ByteArray) : ByteArray := names.foldr (fun n acc => (Sp ++ n) ++ acc) (Sb [])
theorem ba_assoc (a b c : ByteArray) : a ++ b ++ c = a ++ (b ++ c) := by
  rw [Sb_of a, Sb_of b, Sb_of c]
  simp only [Sb_append, List.append_assoc]
theorem ba_nil (a : ByteArray) : a ++ Sb [] = a := by
  rw [Sb_of a, Sb_append, List.append_nil]
theorem nil_ba (a : ByteArray) : Sb [] ++ a = a := by
  rw [Sb_of a, Sb_append, List.nil_append]
theorem spec_names (names : List ByteArray) (hn : names.length + sumS names ≤ 1048576) (code : Int) (text : ByteArray) (size : Int) (dir : Bool) (d : Nat) : ∀ (i : Nat) (s : ByteArray), i + d = names.length →
    s.size + (names.length - i) + sumS (names.drop i) ≤ 100000000 → Ev (fun k => spec_ResultLine.l0 k s (i : Int) code text size dir names) (s ++ tailL (names.drop i)) := by
  induction d with
  | zero =>
    intro i s hi hs
    refine Ev.step (fun k => by rw [spec_ResultLine.l0]) (Ev_neg (by omega) (Ev_eq (Ev_now fun _ => rfl) ?_))
    rw [List.drop_eq_nil_of_le (by omega)]
    exact (ba_nil s).symm
  | succ d ih =>
    intro i s hi hs
    have hlt : i < names.length := by omega
    have e0 := rdOf_get names i hlt
    rw [List.drop_eq_getElem_cons hlt, sumS_cons] at hs
    have s1 : (⟨#[32]⟩ : ByteArray).size = 1 := rfl
    refine Ev.step (fun k => by rw [spec_ResultLine.l0]) (Ev_pos (by omega) (Ev_pos (by omega) (Ev_pos (by omega) ?_)))
    rw [e0, wrap_id (n := (i : Int) + 1) (by omega) (by omega)]
    refine Ev_pos (by rw [ByteArray.size_append, s1]; omega) (Ev_eq (ih (i + 1) _ (by omega) (by rw [ByteArray.size_append, ByteArray.size_append, s1]; omega)) ?_)
    rw [List.drop_eq_getElem_cons hlt]
    show _ = s ++ ((Sp ++ names[i]) ++ tailL (names.drop (i + 1)))
    unfold Sp
    simp only [ba_assoc]
theorem dash_size (text : ByteArray) : (dashB text).size ≤ 40000 := by
  unfold dashB
  by_cases h : text.size = 0 ∨ text.size > 20000
  · rw [if_pos h]; decide
  · rw [if_neg h, hexB_size]; omega
section
variable (code : Int) (text : ByteArray) (size : Int) (dir : Bool) (names : List ByteArray) (hc : -9223372036854775808 ≤ code ∧ code ≤ 9223372036854775807) (hz : -9223372036854775808 ≤ size ∧ size ≤ 9223372036854775807)
  (ht : text.size ≤ 1048576) (hn : names.length + sumS names ≤ 1048576)
include hc hz ht hn
theorem spec_res_j0 : Ev (fun k => spec_ResultLine.j0 k (dashB text) code text size dir names) (headL code text size dir ++ tailL names) := by
  have h1 : (decB code).size ≤ 21 := dec_size code hc.1 hc.2
  have h2 : (decB size).size ≤ 21 := dec_size size hz.1 hz.2
  have h3 := dash_size text
  have s1 : (⟨#[32]⟩ : ByteArray).size = 1 := rfl
  have s5 : (⟨#[99, 111, 100, 101, 32]⟩ : ByteArray).size = 5 := rfl
  have s4 : (⟨#[32, 100, 105, 114]⟩ : ByteArray).size = 4 := rfl
  refine Ev.step (fun k => by rw [spec_ResultLine.j0]) (Ev.bind (show Ev (fun k => spec_Decimal.f k code) (decB code) from spec_dec code hc.1 hc.2) ?_)
  refine Ev_pos (by omega) (Ev_pos (by rw [ByteArray.size_append, s5]; omega) (Ev_pos (by simp only [ByteArray.size_append, s5, s1]; omega) (Ev_pos (by simp only [ByteArray.size_append, s5, s1]; omega) ?_)))
  refine Ev.bind (show Ev (fun k => spec_Decimal.f k size) (decB size) from spec_dec size hz.1 hz.2) (Ev_pos (by simp only [ByteArray.size_append, s5, s1]; omega) ?_)
  cases dir with
  | true =>
    refine Ev_pos rfl (Ev_pos (by simp only [ByteArray.size_append, s5, s1]; omega) (Ev.step (fun k => by rw [spec_ResultLine.j1]) ?_))
    have := spec_names names hn code text size true names.length 0 (headL code text size true) (by omega) (by
      unfold headL; simp only [if_true, ByteArray.size_append]
      have : codeW.size = 5 := rfl
      have : Sp.size = 1 := rfl
      rw [List.drop_zero]; omega)
    rw [List.drop_zero] at this
    exact this
  | false =>
    refine Ev_neg (by simp) (Ev.step (fun k => by rw [spec_ResultLine.j1]) ?_)
    have := spec_names names hn code text size false names.length 0 (headL code text size false) (by omega) (by
      unfold headL; simp only [Bool.false_eq_true, if_false, ByteArray.size_append]
      have : codeW.size = 5 := rfl
      have : Sp.size = 1 := rfl
      rw [List.drop_zero]; omega)
    rw [List.drop_zero] at this
    exact this
theorem spec_res : Ev (fun k => spec_ResultLine.f k code text size dir names) (headL code text size dir ++ tailL names) := by
  unfold spec_ResultLine.f
  by_cases hb : text.size ≤ 20000
  · refine Ev.bind (spec_hex text hb) ?_
    by_cases h0 : text.size = 0
    · refine Ev_pos ((hexB_nil text).2 h0) ?_
      have := spec_res_j0 code text size dir names hc hz ht hn
      unfold dashB at this
      rw [if_pos (.inl h0)] at this
      exact this
    · refine Ev_neg (fun h => h0 ((hexB_nil text).1 h)) ?_
      have := spec_res_j0 code text size dir names hc hz ht hn
      unfold dashB at this
      rw [if_neg (by omega)] at this
      exact this
  · have e : Ev (fun k => spec_Hex.f k text) ((⟨#[]⟩ : ByteArray), false) := by
      unfold spec_Hex.f
      exact Ev_pos (by omega) (Ev_now fun _ => rfl)
    refine Ev.bind e (Ev_pos (toList_nil.2 rfl) ?_)
    have := spec_res_j0 code text size dir names hc hz ht hn
    unfold dashB at this
    rw [if_pos (.inr (by omega))] at this
    exact this
omit hc hz ht hn
theorem impl_dec (n : Int) (h : -9223372036854775808 ≤ n ∧ n ≤ 9223372036854775807) : impl_Decimal.f n = some (decB n) := by
  unfold impl_Decimal.f strconv_Itoa.f
  rw [if_pos h]; rfl
theorem impl_dash (s : ByteArray) (h : s.size ≤ 1048576) : impl_hexOrDash.f s = some (dashB s) := by
  unfold impl_hexOrDash.f impl_Hex.f
  rw [if_pos h]
  by_cases h2 : s.size ≤ 20000
  · rw [if_pos h2, Option.bind_some]
    show (if (hexB s).toList = ([] : List UInt8) then some (⟨#[45]⟩ : ByteArray) else some (hexB s)) = _
    by_cases h0 : s.size = 0
    · rw [if_pos ((hexB_nil s).2 h0)]; unfold dashB; rw [if_pos (.inl h0)]
    · rw [if_neg (fun h => h0 ((hexB_nil s).1 h))]; unfold dashB; rw [if_neg (by omega)]
  · rw [if_neg h2, Option.bind_some]
    show (if (Sb []).toList = ([] : List UInt8) then some (⟨#[45]⟩ : ByteArray) else some (Sb [])) = _
    rw [if_pos (toList_nil.2 rfl)]; unfold dashB; rw [if_pos (.inr (by omega))]
theorem concat2 (a b : List ByteArray) (ha : a.length ≤ 1048576) (hb : b.length ≤ 1048576) : Ev (fun k => slices_Concat_string_string.f k [a, b]) (a ++ b) := by
  unfold slices_Concat_string_string.f
  have r0 : rd_L4 [a, b] 0 = a := rfl
  have r1 : rd_L4 [a, b] 1 = b := rfl
  have w1 : wrap64 (0 + (a.length : Int)) = a.length := by rw [wrap_id (by omega) (by omega)]; omega
  have w2 : wrap64 ((a.length : Int) + (b.length : Int)) = (a.length : Int) + (b.length : Int) := wrap_id (by omega) (by omega)
  have v1 : wrap64 ((0 : Int) + 1) = 1 := wrap_id (by omega) (by omega)
  have v2 : wrap64 ((1 : Int) + 1) = 2 := wrap_id (by omega) (by omega)
  have l2 : (([a, b] : List (List ByteArray)).length : Int) = 2 := rfl
  rw [l2]
  refine Ev.step (fun k => by rw [slices_Concat_string_string.l0]) (Ev_pos (by omega) (Ev_pos (by omega) (Ev_pos (by rw [l2]; omega) (Ev_neg (by rw [r0, w1]; omega) ?_))))
  rw [r0, w1, v1]
  refine Ev.step (fun k => by rw [slices_Concat_string_string.l0]) (Ev_pos (by omega) (Ev_pos (by omega) (Ev_pos (by rw [l2]; omega) (Ev_neg (by rw [r1, w2]; omega) ?_))))
  rw [r1, w2, v2]
  refine Ev.step (fun k => by rw [slices_Concat_string_string.l0]) (Ev_neg (by omega) ?_)
  have g : slices_Grow_string_string.f ([] : List ByteArray) ((a.length : Int) + (b.length : Int)) = some [] := by
    unfold slices_Grow_string_string.f
    rw [if_pos ⟨rfl, by omega, by omega⟩]
  refine Ev_const g ?_
  rw [l2]
  refine Ev.step (fun k => by rw [slices_Concat_string_string.l1]) (Ev_pos (by omega) (Ev_pos (by omega) (Ev_pos (by rw [l2]; omega) (Ev_pos (by rw [r0]; simp; omega) ?_))))
  rw [r0, v1, List.nil_append]
  refine Ev.step (fun k => by rw [slices_Concat_string_string.l1]) (Ev_pos (by omega) (Ev_pos (by omega) (Ev_pos (by rw [l2]; omega) (Ev_pos (by rw [r1]; omega) ?_))))
  rw [r1, v2]
  exact Ev.step (fun k => by rw [slices_Concat_string_string.l1]) (Ev_neg (by omega) (Ev_now fun _ => rfl))
theorem tail_cons (x : ByteArray) (l : List ByteArray) : tailL (x :: l) = (Sp ++ x) ++ tailL l := rfl
theorem tail_append (a b : List ByteArray) : tailL (a ++ b) = tailL a ++ tailL b := by
  induction a with
  | nil => exact (nil_ba _).symm
  | cons x t ih => rw [List.cons_append, tail_cons, tail_cons, ih]; simp only [ba_assoc]
theorem tail_size (l : List ByteArray) : (tailL l).size = l.length + sumS l := by
  induction l with
  | nil => rfl
  | cons x t ih =>
    rw [tail_cons, ByteArray.size_append, ByteArray.size_append, ih, sumS_cons, List.length_cons, show Sp.size = 1 from rfl]; omega
theorem tail_eq (l : List ByteArray) : tailL l = Sb (Lib.joinTail Sp.data.toList (l.map (·.data.toList))) := by
  induction l with
  | nil => rfl
  | cons x t ih =>
    have e : Lib.joinTail Sp.data.toList ((x :: t).map (·.data.toList)) = ([32] ++ x.data.toList) ++ Lib.joinTail Sp.data.toList (t.map (·.data.toList)) := by
      unfold Lib.joinTail
      rw [List.map_cons, List.map_cons, List.flatten_cons]; rfl
    rw [tail_cons, ih, e, ← Sb_append, ← Sb_append, ← Sb_of x]; rfl
theorem join_eq (x : ByteArray) (l : List ByteArray) (h : (x ++ tailL l).size ≤ 100000000) (hl : l.length ≤ 1000000000) : strings_Join.f (x :: l) (⟨#[32]⟩ : ByteArray) = some (x ++ tailL l) := by
  have e : x ++ tailL l = Sb (Lib.join ((x :: l).map (·.data.toList)) (⟨#[32]⟩ : ByteArray).data.toList) := by
    rw [List.map_cons, Lib.join_cons, ← Sb_append, ← Sb_of x, tail_eq]; rfl
  rw [e, Sb_size] at h
  rw [e]
  unfold strings_Join.f
  rw [if_pos ⟨by simp; omega, by omega⟩]; rfl
include hc hz ht hn
theorem impl_res : Ev (fun k => impl_ResultLine.f k code text size dir names) (headL code text size dir ++ tailL names) := by
  have h1 : (decB code).size ≤ 21 := dec_size code hc.1 hc.2
  have h2 : (decB size).size ≤ 21 := dec_size size hz.1 hz.2
  have h3 := dash_size text
  have hS : Sp.size = 1 := rfl
  have h4 : (⟨#[99, 111, 100, 101]⟩ : ByteArray).size = 4 := rfl
  have h5 : (⟨#[100, 105, 114]⟩ : ByteArray).size = 3 := rfl
  have ec : codeW = (⟨#[99, 111, 100, 101]⟩ : ByteArray) ++ Sp := rfl
  have ed : (⟨#[32, 100, 105, 114]⟩ : ByteArray) = Sp ++ (⟨#[100, 105, 114]⟩ : ByteArray) := rfl
  unfold impl_ResultLine.f
  refine Ev_const (impl_dec code hc) (Ev_const (impl_dash text ht) (Ev_const (impl_dec size hz) (Ev_const rfl ?_)))
  cases dir with
  | true =>
    refine Ev_pos rfl (Ev_pos (by simp) (Ev.step (fun k => by rw [impl_ResultLine.j0]) ?_))
    refine Ev.bind (concat2 _ names (by simp) (by omega)) ?_
    refine Ev_const (join_eq (⟨#[99, 111, 100, 101]⟩ : ByteArray) (decB code :: dashB text :: decB size :: (⟨#[100, 105, 114]⟩ : ByteArray) :: names) ?_ ?_) (Ev_eq (Ev_now fun _ => rfl) ?_)
    · simp only [tail_cons, ByteArray.size_append, tail_size, h4, h5, hS]
      omega
    · simp; omega
    · unfold headL
      simp only [if_true, ec, ed, List.cons_append, List.nil_append, tail_cons, ba_assoc]
  | false =>
    refine Ev_neg (by simp) (Ev.step (fun k => by rw [impl_ResultLine.j0]) ?_)
    refine Ev.bind (concat2 _ names (by simp) (by omega)) ?_
    refine Ev_const (join_eq (⟨#[99, 111, 100, 101]⟩ : ByteArray) (decB code :: dashB text :: decB size :: names) ?_ ?_) (Ev_eq (Ev_now fun _ => rfl) ?_)
    · simp only [tail_cons, ByteArray.size_append, tail_size, h4, hS]
      omega
    · simp; omega
    · unfold headL
      simp only [Bool.false_eq_true, if_false, ec, List.cons_append, List.nil_append, tail_cons, ba_assoc]
end
/-! ### the law -/
theorem pure : ∀ (x0 : S39), good39 x0 → ∃ k, laws_FnExactResultLine.f k x0.f0 x0.f1 x0.f2 x0.f3 x0.f4 = some true := by
  rintro ⟨code, text, size, dir, names⟩ ⟨hc, ht, hz, _, hn⟩
  refine Ev.rounds ?_
  unfold laws_FnExactResultLine.f
  obtain ⟨t, e, h⟩ := sz_result code text size dir names ht hn
  refine Ev.bind e ?_
  by_cases hq : t < 0
  · exact Ev_pos hq (Ev_now fun _ => rfl)
  obtain ⟨h1, h2⟩ := h.resolve_left hq
  refine Ev_neg hq ?_
  have cp : Ev (fun k => laws_toResult.f k code text size dir names) (code, text, size, dir, names) := by
    unfold laws_toResult.f
    exact Ev.bind (copy_strs names (by omega)) (Ev_now fun _ => rfl)
  refine Ev.bind cp (Ev.bind (spec_res code text size dir names (wf_i64 hc) (wf_i64 hz) h1 h2) (Ev.bind cp (Ev.bind (impl_res code text size dir names (wf_i64 hc) (wf_i64 hz) h1 h2) (Ev_pos rfl (Ev.bind cp ?_)))))
  have eq : Ev (fun k => laws_eqResult.f k code text size dir names code text size dir names) true := by
    unfold laws_eqResult.f
    refine Ev_pos rfl (Ev_pos rfl (Ev_pos rfl (Ev_neg (by simp) (Ev.bind (eq_strs names (by omega)) (Ev_pos rfl (Ev_now fun _ => rfl))))))
  exact Ev.bind eq (Ev_pos rfl (Ev_now fun _ => rfl))

end Go.Proofs.YtggfonljcbmjmaaDoor.PFnExactResultLine
