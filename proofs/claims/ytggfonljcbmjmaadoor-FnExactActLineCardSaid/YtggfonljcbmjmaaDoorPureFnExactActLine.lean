import Derived.Test.YtggfonljcbmjmaaDoorPFnExactActLinex10
import Derived.Test.YtggfonljcbmjmaaDoorOFnExactActLine
import Derived.Lib.HexFns
import Derived.Lib.ItoaLen
import Derived.Lib.ItoaMem
import Derived.Lib.LazyBuf
import Derived.Lib.Strings
namespace Go.Proofs.YtggfonljcbmjmaaDoor.PFnExactActLine
open Go.RowKit Go.Proofs.YtggfonljcbmjmaaDoorW.PrintWords Go.Proofs.YtggfonljcbmjmaaDoorW.PrintLast Go.Proofs.YtggfonljcbmjmaaDoorW.PrintMore
set_option linter.unusedVariables false
set_option linter.unusedSimpArgs false
set_option linter.unusedSectionVars false

/-! ### numbers, bytes, rounds -/
theorem wf_i64 {n : Int} (h : (Lit.int .i64 n).wf = true) : -9223372036854775808 ≤ n ∧ n ≤ 9223372036854775807 := by
  simpa [Lit.wf, IntKind.min, IntKind.max, IntKind.signed, IntKind.bits] using h
theorem wrap_id {n : Int} (h0 : -9223372036854775808 ≤ n) (h1 : n ≤ 9223372036854775807) : wrap64 n = n := by unfold wrap64; omega
/-- A string by its bytes. -/
def Sb (l : List UInt8) : ByteArray := ⟨l.toArray⟩
theorem Sb_toList (l : List UInt8) : (Sb l).toList = l := by rw [Lib.toList_data]; rfl
theorem Sb_size (l : List UInt8) : (Sb l).size = l.length := by simp [Sb, ByteArray.size]
theorem Sb_append (a b : List UInt8) : Sb a ++ Sb b = Sb (a ++ b) := by
  apply ByteArray.ext
  simp [Sb]
theorem Sb_of (s : ByteArray) : s = Sb s.data.toList := by
  cases s with
  | mk d => simp [Sb]
theorem toList_inj {a b : ByteArray} : a.toList = b.toList ↔ a = b := by
  constructor
  · intro h
    rw [Lib.toList_data, Lib.toList_data] at h
    cases a; cases b
    congr 1
    exact Array.toList_inj.1 h
  · rintro rfl; rfl
theorem toList_nil {a : ByteArray} : a.toList = ([] : List UInt8) ↔ a = Sb [] := by
  have h := @toList_inj a (Sb [])
  rw [Sb_toList] at h
  exact h
theorem beq_toList (a b : ByteArray) : (a.toList == b.toList) = decide (a = b) := by
  rw [Bool.eq_iff_iff, beq_iff_eq, decide_eq_true_iff]
  exact toList_inj
theorem Ev_now {α : Type} {g : Nat → Option α} {r : α} (h : ∀ k, g k = some r) : Ev g r := ⟨0, fun k _ => h k⟩
theorem Ev_pos {α : Type} {c : Prop} {i : Decidable c} {f g : Nat → Option α} {r : α} (hc : c) (h : Ev f r) : Ev (fun k => @ite _ c i (f k) (g k)) r := by
  simp only [if_pos hc]; exact h
theorem Ev_neg {α : Type} {c : Prop} {i : Decidable c} {f g : Nat → Option α} {r : α} (hc : ¬ c) (h : Ev g r) : Ev (fun k => @ite _ c i (f k) (g k)) r := by
  simp only [if_neg hc]; exact h
theorem Ev_const {α β : Type} {x : Option α} {a : α} {f : Nat → α → Option β} {r : β} (hx : x = some a) (h : Ev (fun k => f k a) r) : Ev (fun k => x.bind (f k)) r := by
  subst hx; exact h
theorem Ev_ite {α : Type} {c : Prop} {i : Decidable c} {f g : Nat → Option α} {a b : α} (h : c → Ev f a) (h' : ¬ c → Ev g b) : Ev (fun k => @ite _ c i (f k) (g k)) (if c then a else b) := by
  by_cases hc : c
  · simp only [if_pos hc]; exact h hc
  · simp only [if_neg hc]; exact h' hc
theorem Ev_eq {α : Type} {g : Nat → Option α} {r r' : α} (h : Ev g r) (e : r = r') : Ev g r' := e ▸ h
theorem bt_Sb (l : List UInt8) (i : Nat) (h : i < l.length) : bt (Sb l) i = (l[i].toNat : Int) := by
  unfold bt
  rw [dif_pos (by rw [Sb_size]; simpa using h)]
  rfl
theorem bt_at' (s : ByteArray) (i : Nat) (h : i < s.size) : bt s i = ((s.data.toList[i]'(by simpa using h)).toNat : Int) := by
  unfold bt
  rw [dif_pos (by simpa using h)]
  rfl

/-! ### the reference's numerals -/
theorem spec_in (a b c : Int) : spec_l01In.f a b c = some (decide (b ≤ a ∧ a ≤ c)) := by
  unfold spec_l01In.f
  by_cases h : a ≥ b
  · rw [if_pos h]; congr 1; simp [h]
  · rw [if_neg h]; congr 1; simp; omega
theorem spec_fig (d : Int) (h0 : 0 ≤ d) (h : d < 10) : spec_l01Figure.f d = some (48 + d) := by
  unfold spec_l01Figure.f
  rw [if_pos h, wrap_id (by omega) (by omega)]
  congr 1; omega
theorem spec_fig_hex (d : Nat) (h : d < 16) : spec_l01Figure.f d = some ((Lib.Hx.digit d).toNat : Int) := by
  unfold spec_l01Figure.f
  have : d = 0 ∨ d = 1 ∨ d = 2 ∨ d = 3 ∨ d = 4 ∨ d = 5 ∨ d = 6 ∨ d = 7 ∨ d = 8 ∨ d = 9 ∨ d = 10 ∨ d = 11 ∨ d = 12 ∨ d = 13 ∨ d = 14 ∨ d = 15 := by omega
  rcases this with rfl | rfl | rfl | rfl | rfl | rfl | rfl | rfl | rfl | rfl | rfl | rfl | rfl | rfl | rfl | rfl <;> decide +kernel
theorem nums_one (d : Nat) (h : d < 10) : strOfNums ([48 + (d : Int)] : List Int) = Sb [UInt8.ofNat (48 + d)] := by
  have e : (48 + (d : Int)).toNat = 48 + d := by omega
  unfold strOfNums Sb
  simp [e]
theorem dec_loop (below : Bool) (u : Nat) : ∀ (x : Int) (acc : ByteArray), (x = u ∨ x = -(u : Int)) → 0 < u → u ≤ 9223372036854775808 → (u = 9223372036854775808 → x < 0) → acc.size + Lib.nDigits u ≤ 1000 →
    Ev (fun k => spec_Decimal.l0 k x below acc) (if below = true then (⟨#[45]⟩ : ByteArray) ++ (Sb (Lib.decDigits u) ++ acc) else Sb (Lib.decDigits u) ++ acc) := by
  induction u using Nat.strongRecOn with
  | _ u ih =>
  intro x acc hx hu hm hm2 hs
  refine Ev.step (fun k => by rw [spec_Decimal.l0]) ?_
  refine Ev_neg (by omega) ?_
  have hd : Int.tmod x 10 = (if x < 0 then -((u % 10 : Nat) : Int) else ((u % 10 : Nat) : Int)) := by
    rcases hx with rfl | rfl
    · rw [if_neg (by omega), Int.tmod_eq_emod_of_nonneg (by omega)]; omega
    · rw [if_pos (by omega), Int.neg_tmod, Int.tmod_eq_emod_of_nonneg (by omega)]; omega
  have hq : Int.tdiv x 10 = (if x < 0 then -((u / 10 : Nat) : Int) else ((u / 10 : Nat) : Int)) := by
    rcases hx with rfl | rfl
    · rw [if_neg (by omega), Int.tdiv_eq_ediv_of_nonneg (by omega)]; omega
    · rw [if_pos (by omega), Int.neg_tdiv, Int.tdiv_eq_ediv_of_nonneg (by omega)]; omega
  have hw : wrap64 (Int.tdiv x 10) = Int.tdiv x 10 := wrap_id (by rw [hq]; split <;> omega) (by rw [hq]; split <;> omega)
  have hlen : (Sb [UInt8.ofNat (48 + u % 10)]).size = 1 := by rw [Sb_size]; rfl
  have hstep : Ev (fun k => spec_Decimal.l0 k (wrap64 (Int.tdiv x 10)) below (Sb [UInt8.ofNat (48 + u % 10)] ++ acc)) (if below = true then (⟨#[45]⟩ : ByteArray) ++ (Sb (Lib.decDigits u) ++ acc) else Sb (Lib.decDigits u) ++ acc) := by
    by_cases h10 : u < 10
    · have hz : wrap64 (Int.tdiv x 10) = 0 := by rw [hw, hq]; split <;> omega
      rw [hz]
      have hdd : Lib.decDigits u = [UInt8.ofNat (48 + u % 10)] := by rw [Lib.decDigits_one h10, Nat.mod_eq_of_lt h10]
      rw [hdd]
      refine Ev.step (fun k => by rw [spec_Decimal.l0]) ?_
      refine Ev_pos rfl ?_
      have hsz : (Sb [UInt8.ofNat (48 + u % 10)] ++ acc).size ≤ 1001 := by rw [ByteArray.size_append, hlen]; omega
      cases below with
      | true =>
        refine Ev_pos rfl ?_
        refine Ev_pos (by omega) ?_
        exact Ev_now fun k => rfl
      | false => exact Ev_neg (by simp) (Ev_now fun k => rfl)
    · have hdd : Lib.decDigits u = Lib.decDigits (u / 10) ++ [UInt8.ofNat (48 + u % 10)] := by rw [Lib.decDigits, dif_neg h10]
      have hnd := Lib.nDigits_big h10
      rw [hdd, ← Sb_append, ByteArray.append_assoc]
      refine ih (u / 10) (by omega) _ _ ?_ (by omega) (by omega) (by omega) (by rw [ByteArray.size_append, hlen]; omega)
      rw [hw, hq]
      split
      · exact .inr rfl
      · exact .inl rfl
  have h1 : ∀ t : Int, t = ((u % 10 : Nat) : Int) → spec_l01Figure.f t = some (48 + ((u % 10 : Nat) : Int)) := fun t ht => by
    rw [ht]; exact spec_fig _ (by omega) (by omega)
  have hsum : (Sb [UInt8.ofNat (48 + u % 10)]).size + acc.size ≤ 9223372036854775807 := by rw [hlen]; omega
  by_cases hneg : Int.tmod x 10 < 0
  · refine Ev_pos hneg ?_
    have ht : wrap64 (-(Int.tmod x 10)) = ((u % 10 : Nat) : Int) := by
      rw [wrap_id (by omega) (by rw [hd]; split <;> omega), hd]; rw [hd] at hneg; split at hneg <;> split <;> omega
    refine Ev_const (h1 _ ht) ?_
    refine Ev_const rfl ?_
    rw [nums_one _ (by omega)]
    exact Ev_pos hsum hstep
  · refine Ev_neg hneg ?_
    have ht : Int.tmod x 10 = ((u % 10 : Nat) : Int) := by
      rw [hd]; rw [hd] at hneg; split at hneg <;> split <;> omega
    refine Ev_const (h1 _ ht) ?_
    refine Ev_const rfl ?_
    rw [nums_one _ (by omega)]
    exact Ev_pos hsum hstep
theorem nDigits_le (u : Nat) (h : u ≤ 9223372036854775808) : Lib.nDigits u ≤ 21 := by
  have := Lib.itoa_length_le (-(u : Int)) (by omega) (by omega)
  by_cases h0 : 1 ≤ u
  · rw [Lib.itoa_neg u h0, List.length_cons, Lib.decDigits_length] at this; omega
  · obtain rfl : u = 0 := by omega
    rw [Lib.nDigits_small (by omega)]; omega
theorem spec_dec (n : Int) (h0 : -9223372036854775808 ≤ n) (h1 : n ≤ 9223372036854775807) : Ev (fun k => spec_Decimal.f k n) (Sb (Lib.itoa n)) := by
  unfold spec_Decimal.f
  by_cases hz : n = 0
  · subst hz
    exact Ev_pos rfl (Ev_now fun k => by rw [show (0 : Int) = ((0 : Nat) : Int) from rfl, Lib.itoa_nonneg, Lib.decDigits_one (by omega)]; rfl)
  · refine Ev_neg hz ?_
    refine Ev_eq (dec_loop _ n.natAbs n _ (by omega) (by omega) (by omega) (by omega) ?_) ?_
    · have := nDigits_le n.natAbs (by omega)
      show 0 + _ ≤ _
      omega
    · have he : ∀ l, Sb l ++ (⟨#[]⟩ : ByteArray) = Sb l := fun l => by rw [show (⟨#[]⟩ : ByteArray) = Sb [] from rfl, Sb_append, List.append_nil]
      unfold Lib.itoa
      by_cases hn : n < 0
      · rw [if_pos (by simpa using hn), if_pos hn, he, show (⟨#[45]⟩ : ByteArray) = Sb [45] from rfl, Sb_append]; rfl
      · rw [if_neg (by simpa using hn), if_neg hn, he, show n.natAbs = n.toNat by omega]
theorem dec_size (n : Int) (h0 : -9223372036854775808 ≤ n) (h1 : n ≤ 9223372036854775807) : (Sb (Lib.itoa n)).size ≤ 21 := by
  rw [Sb_size]; exact Lib.itoa_length_le n h0 h1

/-! ### the reference's hexadecimal texts -/
theorem strOf_bytes (l : List UInt8) : strOfNums (l.map fun b => (b.toNat : Int)) = Sb l := by
  unfold strOfNums Sb
  rw [List.map_map]
  congr 2
  conv => rhs; rw [← List.map_id l]
  apply List.map_congr_left
  intro b _
  simp
theorem hex_loop (s : ByteArray) (hs : s.size ≤ 20000) (d : Nat) : ∀ (i : Nat) (acc : List UInt8), i + d = s.size → acc.length = 2 * i →
    Ev (fun k => spec_Hex.l0 k s (acc.map fun b => (b.toNat : Int)) (i : Int)) (Sb (acc ++ Lib.Hx.encode (s.data.toList.drop i)), true) := by
  induction d with
  | zero =>
    intro i acc hi ha
    refine Ev.step (fun k => by rw [spec_Hex.l0]) ?_
    refine Ev_neg (by omega) (Ev_now fun k => ?_)
    rw [List.drop_of_length_le (by simp; omega), strOf_bytes]
    simp [Lib.Hx.encode]
  | succ d ih =>
    intro i acc hi ha
    have hlt : i < s.size := by omega
    have hb := bt_at' s i hlt
    have hget : i < s.data.toList.length := by simpa using hlt
    generalize hv : s.data.toList[i] = v at hb
    have hdrop : s.data.toList.drop i = v :: s.data.toList.drop (i + 1) := by rw [← hv]; exact List.drop_eq_getElem_cons hget
    have hvlt : v.toNat < 256 := v.toNat_lt
    have hw : wrap64 (bt s i) = ((v.toNat : Nat) : Int) := by rw [hb]; exact wrap_id (by omega) (by omega)
    refine Ev.step (fun k => by rw [spec_Hex.l0]) ?_
    refine Ev_pos (by omega) (Ev_pos (by omega) ?_)
    refine Ev_const (a := ((Lib.Hx.digit (v.toNat / 16)).toNat : Int)) ?_ ?_
    · rw [hw, Int.tdiv_eq_ediv_of_nonneg (by omega), wrap_id (by omega) (by omega), ← spec_fig_hex _ (by omega)]; congr 1
    refine Ev_const (a := ((Lib.Hx.digit (v.toNat % 16)).toNat : Int)) ?_ ?_
    · rw [hw, Int.tmod_eq_emod_of_nonneg (by omega), ← spec_fig_hex _ (by omega)]; congr 1
    refine Ev_const rfl ?_
    refine Ev_pos (by simp [ha]; omega) ?_
    rw [show wrap64 ((i : Int) + 1) = ((i + 1 : Nat) : Int) by rw [wrap_id (by omega) (by omega)]; omega]
    have := ih (i + 1) (acc ++ [Lib.Hx.digit (v.toNat / 16), Lib.Hx.digit (v.toNat % 16)]) (by omega) (by simp [ha]; omega)
    rw [hdrop, Lib.Hx.encode_cons]
    simpa using this
def hexB (s : ByteArray) : ByteArray := Sb (Lib.Hx.encode s.data.toList)
theorem spec_hex (s : ByteArray) (hs : s.size ≤ 20000) : Ev (fun k => spec_Hex.f k s) (hexB s, true) := by
  unfold spec_Hex.f
  refine Ev_neg (by omega) ?_
  have := hex_loop s hs s.size 0 [] (by omega) rfl
  simpa [hexB] using this
theorem encode_len (l : List UInt8) : (Lib.Hx.encode l).length = 2 * l.length := by
  induction l with
  | nil => rfl
  | cons a t ih => rw [Lib.Hx.encode_cons, List.length_cons, List.length_cons, ih, List.length_cons]; omega
theorem hexB_size (s : ByteArray) : (hexB s).size = 2 * s.size := by unfold hexB; rw [Sb_size, encode_len, Array.length_toList]; rfl
theorem hexB_nil (s : ByteArray) : (hexB s).toList = ([] : List UInt8) ↔ s.size = 0 := by
  have h := hexB_size s
  rw [toList_nil]
  constructor
  · intro e; rw [e] at h; have : (Sb []).size = 0 := Sb_size []; omega
  · intro e
    have h0 : (hexB s).size = 0 := by omega
    unfold hexB at h0 ⊢
    rw [Sb_size] at h0
    rw [List.length_eq_zero_iff.1 h0]

/-! ### a path in a line -/
def plainB (s : ByteArray) : Bool := decide (1 ≤ s.size ∧ s.size ≤ 100) && s.data.toList.all fun b => decide (33 ≤ b.toNat ∧ b.toNat ≤ 126)
theorem all_split (l : List UInt8) (p : UInt8 → Bool) (i : Nat) (h : i < l.length) (hp : (l.take i).all p = true) : l.all p = (p l[i] && (l.drop (i + 1)).all p) := by
  have h1 : l = l.take i ++ (l[i] :: l.drop (i + 1)) := by rw [← List.drop_eq_getElem_cons h, List.take_append_drop]
  conv => lhs; rw [h1, List.all_append, hp, List.all_cons]
  simp
theorem take_all (l : List UInt8) (p : UInt8 → Bool) (i : Nat) (h : i < l.length) (hp : (l.take i).all p = true) (hi : p l[i] = true) : (l.take (i + 1)).all p = true := by
  rw [List.take_succ_eq_append_getElem h, List.all_append, hp]; simp [hi]
theorem spec_plain_loop (s : ByteArray) (hs : s.size ≤ 1048576) (d : Nat) : ∀ i : Nat, i + d = s.size → ((s.data.toList.take i).all fun b => decide (33 ≤ b.toNat ∧ b.toNat ≤ 126)) = true →
    Ev (fun k => spec_l31Plain.l0 k s (i : Int)) (plainB s) := by
  induction d with
  | zero =>
    intro i hi hp
    refine Ev.step (fun k => by rw [spec_l31Plain.l0]) ?_
    refine Ev_neg (by omega) (Ev_const (spec_in _ _ _) (Ev_now fun k => ?_))
    rw [List.take_of_length_le (by simp; omega)] at hp
    unfold plainB
    rw [hp, Bool.and_true]
    congr 1
    rw [decide_eq_decide]
    omega
  | succ d ih =>
    intro i hi hp
    have hlt : i < s.size := by omega
    have hb := bt_at' s i hlt
    have hget : i < s.data.toList.length := by simpa using hlt
    have hta := take_all s.data.toList (fun b => decide (33 ≤ b.toNat ∧ b.toNat ≤ 126)) i hget hp
    have hsp := all_split s.data.toList (fun b => decide (33 ≤ b.toNat ∧ b.toNat ≤ 126)) i hget hp
    generalize s.data.toList[i] = v at hb hta hsp
    have hvlt : v.toNat < 256 := v.toNat_lt
    refine Ev.step (fun k => by rw [spec_l31Plain.l0]) ?_
    refine Ev_pos (by omega) (Ev_pos (by omega) (Ev_const (spec_in _ _ _) ?_))
    rw [hb, wrap_id (by omega) (by omega)]
    by_cases hc : 33 ≤ v.toNat ∧ v.toNat ≤ 126
    · refine Ev_pos (by simp; omega) ?_
      rw [show wrap64 ((i : Int) + 1) = ((i + 1 : Nat) : Int) by rw [wrap_id (by omega) (by omega)]; omega]
      exact ih (i + 1) (by omega) (hta (by simpa using hc))
    · refine Ev_neg (by simp; omega) (Ev_now fun k => ?_)
      unfold plainB
      rw [hsp]
      simp only [decide_eq_false hc, Bool.false_and, Bool.and_false]
theorem spec_plain (s : ByteArray) (hs : s.size ≤ 1048576) : Ev (fun k => spec_l31Plain.f k s) (plainB s) := by
  unfold spec_l31Plain.f
  exact spec_plain_loop s hs s.size 0 (by omega) rfl
theorem impl_in (a b c : Int) : impl_within.f a b c = some (decide (b ≤ a ∧ a ≤ c)) := by
  unfold impl_within.f
  by_cases h : a ≥ b
  · rw [if_pos h]; congr 1; simp [h]
  · rw [if_neg h]; congr 1; simp; omega
theorem impl_plain_loop (s : ByteArray) (hs : s.size ≤ 1048576) (d : Nat) : ∀ i : Nat, i + d = s.size → ((s.data.toList.take i).all fun b => decide (33 ≤ b.toNat ∧ b.toNat ≤ 126)) = true →
    Ev (fun k => impl_isLinePath.l0 k s (s.size : Int) (i : Int)) (plainB s) := by
  induction d with
  | zero =>
    intro i hi hp
    refine Ev.step (fun k => by rw [impl_isLinePath.l0]) ?_
    refine Ev_neg (by omega) (Ev_const (impl_in _ _ _) (Ev_now fun k => ?_))
    rw [List.take_of_length_le (by simp; omega)] at hp
    unfold plainB
    rw [hp, Bool.and_true]
    congr 1
    rw [decide_eq_decide]
    omega
  | succ d ih =>
    intro i hi hp
    have hlt : i < s.size := by omega
    have hb := bt_at' s i hlt
    have hget : i < s.data.toList.length := by simpa using hlt
    have hta := take_all s.data.toList (fun b => decide (33 ≤ b.toNat ∧ b.toNat ≤ 126)) i hget hp
    have hsp := all_split s.data.toList (fun b => decide (33 ≤ b.toNat ∧ b.toNat ≤ 126)) i hget hp
    generalize s.data.toList[i] = v at hb hta hsp
    have hf : ¬ (33 ≤ v.toNat ∧ v.toNat ≤ 126) → plainB s = false := fun hc => by
      unfold plainB
      rw [hsp]
      simp only [decide_eq_false hc, Bool.false_and, Bool.and_false]
    refine Ev.step (fun k => by rw [impl_isLinePath.l0]) ?_
    refine Ev_pos (by omega) (Ev_pos (by omega) (Ev_pos (by omega) ?_))
    rw [hb]
    by_cases h1 : (v.toNat : Int) < 33
    · exact Ev_pos h1 (Ev_now fun k => by rw [hf (by omega)])
    refine Ev_neg h1 ?_
    by_cases h2 : (v.toNat : Int) > 126
    · exact Ev_pos h2 (Ev_now fun k => by rw [hf (by omega)])
    refine Ev_neg h2 ?_
    rw [show wrap64 ((i : Int) + 1) = ((i + 1 : Nat) : Int) by rw [wrap_id (by omega) (by omega)]; omega]
    exact ih (i + 1) (by omega) (hta (by simp; omega))
theorem impl_plain (s : ByteArray) (hs : s.size ≤ 1048576) : Ev (fun k => impl_isLinePath.f k s) (plainB s) := by
  unfold impl_isLinePath.f
  exact impl_plain_loop s hs s.size 0 (by omega) rfl
/-! ### the line of an operation -/
def wordsL : List ByteArray := [(⟨#[]⟩ : ByteArray), (⟨#[99, 114, 101, 97, 116, 101]⟩ : ByteArray), (⟨#[109, 107, 100, 105, 114]⟩ : ByteArray), (⟨#[117, 110, 108, 105, 110, 107]⟩ : ByteArray), (⟨#[114, 109, 100, 105, 114]⟩ : ByteArray), (⟨#[114, 101, 110, 97, 109, 101]⟩ : ByteArray), (⟨#[114, 101, 97, 100]⟩ : ByteArray), (⟨#[119, 114, 105, 116, 101]⟩ : ByteArray), (⟨#[116, 114, 117, 110, 99, 97, 116, 101]⟩ : ByteArray), (⟨#[115, 116, 97, 116]⟩ : ByteArray), (⟨#[108, 105, 115, 116]⟩ : ByteArray), (⟨#[115, 121, 110, 99]⟩ : ByteArray)]
theorem word_size (i : Int) : (rdOf ByteArray.empty wordsL i).size ≤ 8 := by
  unfold rdOf
  rw [List.getD_eq_getElem?_getD]
  have h : ∀ x ∈ wordsL, x.size ≤ 8 := by decide
  cases e : wordsL[i.toNat]? with
  | none => decide
  | some x => exact h x (List.mem_of_getElem? e)
def Sp : ByteArray := ⟨#[32]⟩
def decB (n : Int) : ByteArray := Sb (Lib.itoa n)
def dashB (s : ByteArray) : ByteArray := if s.size = 0 then (⟨#[45]⟩ : ByteArray) else hexB s
/-- The line, where there is one. -/
def bodyL (kind : Int) (path dst : ByteArray) (off len : Int) (text : ByteArray) : ByteArray :=
  let b := rdOf ByteArray.empty wordsL kind ++ Sp ++ path
  if kind = 5 then b ++ Sp ++ dst else if kind = 6 then b ++ Sp ++ decB off ++ Sp ++ decB len else if kind = 7 then b ++ Sp ++ decB off ++ Sp ++ dashB text else if kind = 8 then b ++ Sp ++ decB len else b
/-- Is there one? -/
def okL (kind : Int) (path dst : ByteArray) (off len : Int) (text : ByteArray) : Bool :=
  decide (1 ≤ kind ∧ kind ≤ 11) && decide (text.size ≤ 200) && plainB path && (decide (kind ≠ 5) || plainB dst) && decide (0 ≤ off ∧ off ≤ 1000000000) && decide (0 ≤ len ∧ len ≤ 1000000000) &&
    decide ((kind = 5 ∨ dst = Sb []) ∧ (kind = 6 ∨ kind = 7 ∨ off = 0) ∧ (kind = 6 ∨ kind = 8 ∨ len = 0) ∧ (kind = 7 ∨ text = Sb []))
def lineL (kind : Int) (path dst : ByteArray) (off len : Int) (text : ByteArray) : ByteArray := if okL kind path dst off len text = true then bodyL kind path dst off len text else Sb []
theorem impl_dec (n : Int) (h : -9223372036854775808 ≤ n ∧ n ≤ 9223372036854775807) : impl_Decimal.f n = some (decB n) := by
  unfold impl_Decimal.f strconv_Itoa.f
  rw [if_pos h]; rfl
theorem impl_dash (s : ByteArray) (h : s.size ≤ 1048576) : impl_hexOrDash.f s = some (if s.size ≤ 20000 then dashB s else (⟨#[45]⟩ : ByteArray)) := by
  unfold impl_hexOrDash.f impl_Hex.f
  rw [if_pos h]
  by_cases h2 : s.size ≤ 20000
  · rw [if_pos h2, if_pos h2, Option.bind_some]
    show (if (hexB s).toList = ([] : List UInt8) then some (⟨#[45]⟩ : ByteArray) else some (hexB s)) = _
    unfold dashB
    by_cases hz : s.size = 0
    · rw [if_pos ((hexB_nil s).2 hz), if_pos hz]
    · rw [if_neg (fun e => hz ((hexB_nil s).1 e)), if_neg hz]
  · rw [if_neg h2, if_neg h2, Option.bind_some, if_pos (by rw [toList_nil]; rfl)]
theorem impl_ask_end (out : ByteArray) (dst' : ByteArray) (off' len' : Int) (text' : ByteArray) : Ev (fun k => impl_AskLine.j1 k out 0 (⟨#[]⟩ : ByteArray) dst' off' len' text') (if dst' = Sb [] ∧ off' = 0 ∧ len' = 0 ∧ text' = Sb [] then out else Sb []) := by
  refine Ev.step (fun k => by rw [impl_AskLine.j1]) ?_
  have hc : ((!((0 : Int) == 0) || (!((⟨#[]⟩ : ByteArray).toList == ([] : List UInt8)) || (!(dst'.toList == ([] : List UInt8)) || (!(off' == 0) || (!(len' == 0) || (!(text'.toList == ([] : List UInt8)))))))) = true) ↔ ¬ (dst' = Sb [] ∧ off' = 0 ∧ len' = 0 ∧ text' = Sb []) := by
    have hn : ∀ s : ByteArray, (s.toList == ([] : List UInt8)) = decide (s = Sb []) := fun s => by
      have h := beq_toList s (Sb [])
      rw [Sb_toList] at h
      exact h
    rw [hn, hn, hn, show (⟨#[]⟩ : ByteArray) = Sb [] from rfl]
    by_cases h1 : dst' = Sb [] <;> by_cases h2 : off' = 0 <;> by_cases h3 : len' = 0 <;> by_cases h4 : text' = Sb [] <;> simp [h1, h2, h3, h4]
  by_cases h : dst' = Sb [] ∧ off' = 0 ∧ len' = 0 ∧ text' = Sb []
  · rw [if_pos h]; exact Ev_neg (fun e => hc.1 e h) (Ev_now fun _ => rfl)
  · rw [if_neg h]; exact Ev_pos (hc.2 h) (Ev_now fun _ => rfl)
section
variable (kind : Int) (path dst : ByteArray) (off len : Int) (text : ByteArray)
theorem spec_ask_none : Ev (fun k => spec_AskLine.j0 k true kind path dst off len text) (Sb []) := by
  refine Ev.step (fun k => by rw [spec_AskLine.j0]) ?_
  exact Ev_pos rfl (Ev_now fun _ => rfl)
theorem impl_ask_none : Ev (fun k => impl_AskLine.j0 k true kind path dst off len text) (Sb []) := by
  refine Ev.step (fun k => by rw [impl_AskLine.j0]) ?_
  exact Ev_pos rfl (Ev_now fun _ => rfl)
variable (hp : path.size ≤ 1048576) (ht : dst.size ≤ 1048576) (ho : -9223372036854775808 ≤ off ∧ off ≤ 9223372036854775807) (hl : -9223372036854775808 ≤ len ∧ len ≤ 9223372036854775807) (hx : text.size ≤ 1048576)
include hp ht ho hl
theorem spec_ask_body (hk : 1 ≤ kind ∧ kind ≤ 11) (hx2 : text.size ≤ 200) : Ev (fun k => spec_AskLine.j1 k kind path dst off len text) (bodyL kind path dst off len text) := by
  have hw := word_size kind
  have hsp : (⟨#[32]⟩ : ByteArray).size = 1 := rfl
  have hd1 := dec_size off ho.1 ho.2
  have hd2 := dec_size len hl.1 hl.2
  have hh := hexB_size text
  refine Ev.step (fun k => by rw [spec_AskLine.j1]) ?_
  refine Ev_const (a := wordsL) rfl ?_
  refine Ev_pos (by omega) (Ev_pos (by show kind < ((12 : Nat) : Int); omega) (Ev_pos (by omega) (Ev_pos (by simp only [ByteArray.size_append, hsp]; omega) ?_)))
  by_cases k5 : kind = 5
  · refine Ev_pos k5 (Ev_pos (by simp only [ByteArray.size_append, hsp]; omega) (Ev_pos (by simp only [ByteArray.size_append, hsp]; omega) ?_))
    exact Ev_eq (Ev_now fun _ => rfl) (by simp only [bodyL, if_pos k5, Sp])
  refine Ev_neg k5 ?_
  by_cases k6 : kind = 6
  · refine Ev_pos k6 (Ev_pos (by simp only [ByteArray.size_append, hsp]; omega) (Ev.bind (spec_dec off ho.1 ho.2) ?_))
    refine Ev_pos (by simp only [ByteArray.size_append, hsp]; omega) (Ev_pos (by simp only [ByteArray.size_append, hsp]; omega) (Ev.bind (spec_dec len hl.1 hl.2) ?_))
    refine Ev_pos (by simp only [ByteArray.size_append, hsp]; omega) ?_
    exact Ev_eq (Ev_now fun _ => rfl) (by simp only [bodyL, if_neg k5, if_pos k6, Sp, decB])
  refine Ev_neg k6 ?_
  by_cases k7 : kind = 7
  · refine Ev_pos k7 (Ev.bind (spec_hex text (by omega)) ?_)
    by_cases hz : text.size = 0
    · refine Ev_pos ((hexB_nil text).2 hz) (Ev_pos (by simp only [ByteArray.size_append, hsp]; omega) (Ev.bind (spec_dec off ho.1 ho.2) ?_))
      refine Ev_pos (by simp only [ByteArray.size_append, hsp]; omega) (Ev_pos (by simp only [ByteArray.size_append, hsp]; omega) (Ev_pos (by simp only [ByteArray.size_append, hsp]; omega) ?_))
      exact Ev_eq (Ev_now fun _ => rfl) (by simp only [bodyL, if_neg k5, if_neg k6, if_pos k7, Sp, decB, dashB, if_pos hz])
    · refine Ev_neg (fun e => hz ((hexB_nil text).1 e)) (Ev_pos (by simp only [ByteArray.size_append, hsp]; omega) (Ev.bind (spec_dec off ho.1 ho.2) ?_))
      refine Ev_pos (by simp only [ByteArray.size_append, hsp]; omega) (Ev_pos (by simp only [ByteArray.size_append, hsp]; omega) (Ev_pos (by simp only [ByteArray.size_append, hsp]; omega) ?_))
      exact Ev_eq (Ev_now fun _ => rfl) (by simp only [bodyL, if_neg k5, if_neg k6, if_pos k7, Sp, decB, dashB, if_neg hz])
  refine Ev_neg k7 ?_
  by_cases k8 : kind = 8
  · refine Ev_pos k8 (Ev_pos (by simp only [ByteArray.size_append, hsp]; omega) (Ev.bind (spec_dec len hl.1 hl.2) ?_))
    refine Ev_pos (by simp only [ByteArray.size_append, hsp]; omega) ?_
    exact Ev_eq (Ev_now fun _ => rfl) (by simp only [bodyL, if_neg k5, if_neg k6, if_neg k7, if_pos k8, Sp, decB])
  refine Ev_neg k8 ?_
  exact Ev_eq (Ev_now fun _ => rfl) (by simp only [bodyL, if_neg k5, if_neg k6, if_neg k7, if_neg k8, Sp])
omit hp ht ho hl
theorem told_some : spec_l31Told.f kind path dst off len text = some (kind, path, (if kind = 5 then dst else Sb []), (if kind = 6 ∨ kind = 7 then off else 0), (if kind = 6 ∨ kind = 8 then len else 0), (if kind = 7 then text else Sb [])) := by
  unfold spec_l31Told.f
  by_cases k5 : kind = 5
  · subst k5; rfl
  by_cases k6 : kind = 6
  · subst k6; rfl
  by_cases k7 : kind = 7
  · subst k7; rfl
  by_cases k8 : kind = 8
  · subst k8; rfl
  simp only [k5, k6, k7, k8, if_false, or_self]
  rfl
theorem told_ne : ((!(kind == kind) || (!(path.toList == path.toList) || (!((if kind = 5 then dst else Sb []).toList == dst.toList) || (!((if kind = 6 ∨ kind = 7 then off else 0) == off) || (!((if kind = 6 ∨ kind = 8 then len else 0) == len) || (!((if kind = 7 then text else Sb []).toList == text.toList))))))) = true) ↔
    ¬ ((kind = 5 ∨ dst = Sb []) ∧ (kind = 6 ∨ kind = 7 ∨ off = 0) ∧ (kind = 6 ∨ kind = 8 ∨ len = 0) ∧ (kind = 7 ∨ text = Sb [])) := by
  have e1 : (if kind = 5 then dst else Sb []) = dst ↔ (kind = 5 ∨ dst = Sb []) := by
    by_cases h : kind = 5
    · simp [h]
    · simp only [if_neg h, h, false_or]; exact eq_comm
  have e2 : (if kind = 6 ∨ kind = 7 then off else 0) = off ↔ (kind = 6 ∨ kind = 7 ∨ off = 0) := by
    by_cases h : kind = 6 ∨ kind = 7
    · rw [if_pos h]; simp; omega
    · rw [if_neg h]; omega
  have e3 : (if kind = 6 ∨ kind = 8 then len else 0) = len ↔ (kind = 6 ∨ kind = 8 ∨ len = 0) := by
    by_cases h : kind = 6 ∨ kind = 8
    · rw [if_pos h]; simp; omega
    · rw [if_neg h]; omega
  have e4 : (if kind = 7 then text else Sb []) = text ↔ (kind = 7 ∨ text = Sb []) := by
    by_cases h : kind = 7
    · simp [h]
    · simp only [if_neg h, h, false_or]; exact eq_comm
  rw [← e1, ← e2, ← e3, ← e4]
  simp only [beq_toList, Bool.or_eq_true, Bool.not_eq_true', beq_self_eq_true, decide_eq_false_iff_not, beq_eq_false_iff_ne]
  simp only [Bool.true_eq_false, false_or, decide_true, not_true_eq_false, ne_eq]
  by_cases h1 : (if kind = 5 then dst else Sb []) = dst <;> by_cases h2 : (if kind = 6 ∨ kind = 7 then off else 0) = off <;> by_cases h3 : (if kind = 6 ∨ kind = 8 then len else 0) = len <;> by_cases h4 : (if kind = 7 then text else Sb []) = text <;> simp [h1, h2, h3, h4]
include hp ht ho hl hx
theorem spec_ask : Ev (fun k => spec_AskLine.f k kind path dst off len text) (lineL kind path dst off len text) := by
  unfold spec_AskLine.f
  have no : okL kind path dst off len text = false → lineL kind path dst off len text = Sb [] := fun h => by unfold lineL; rw [h]; rfl
  have hok : spec_AskOk.f kind path dst off len text = some (decide (1 ≤ kind ∧ kind ≤ 11) && decide (text.size ≤ 200)) := by
    unfold spec_AskOk.f
    rw [spec_in, Option.bind_some]
    by_cases h : 1 ≤ kind ∧ kind ≤ 11
    · rw [if_pos (by simpa using h), decide_eq_true h]; congr 1; simp; omega
    · rw [if_neg (by simpa using h), decide_eq_false h]; rfl
  refine Ev_const hok ?_
  by_cases hk : 1 ≤ kind ∧ kind ≤ 11
  case neg => exact Ev_neg (by simp [hk]) (Ev_eq (spec_ask_none ..) (no (by unfold okL; simp [hk])).symm)
  by_cases hx2 : text.size ≤ 200
  case neg => exact Ev_neg (by simp [hx2]) (Ev_eq (spec_ask_none ..) (no (by unfold okL; simp [hx2])).symm)
  refine Ev_pos (by simp [hk, hx2]) (Ev_const (told_some ..) ?_)
  by_cases hT : (kind = 5 ∨ dst = Sb []) ∧ (kind = 6 ∨ kind = 7 ∨ off = 0) ∧ (kind = 6 ∨ kind = 8 ∨ len = 0) ∧ (kind = 7 ∨ text = Sb [])
  case neg => exact Ev_pos ((told_ne ..).2 hT) (Ev_eq (spec_ask_none ..) (no (by unfold okL; rw [decide_eq_false hT, Bool.and_false])).symm)
  refine Ev_neg (fun h => (told_ne ..).1 h hT) (Ev.bind (spec_plain path hp) ?_)
  cases hpl : plainB path with
  | false => exact Ev_neg (by simp) (Ev_eq (spec_ask_none ..) (no (by unfold okL; rw [hpl]; simp)).symm)
  | true =>
    refine Ev_pos rfl ?_
    have nums : Ev (fun k => (spec_l01In.f off 0 1000000000).bind fun t143 => (if t143 = true then ((spec_l01In.f len 0 1000000000).bind fun t144 => (spec_AskLine.j0 k (!t144) kind path dst off len text)) else (spec_AskLine.j0 k true kind path dst off len text)))
        (if decide (0 ≤ off ∧ off ≤ 1000000000) && decide (0 ≤ len ∧ len ≤ 1000000000) then bodyL kind path dst off len text else Sb []) := by
      refine Ev_const (spec_in ..) ?_
      by_cases h1 : 0 ≤ off ∧ off ≤ 1000000000
      · refine Ev_pos (by simpa using h1) (Ev_const (spec_in ..) ?_)
        by_cases h2 : 0 ≤ len ∧ len ≤ 1000000000
        · rw [decide_eq_true h2, decide_eq_true h1]
          refine Ev.step (fun k => by rw [spec_AskLine.j0]) ?_
          exact (Ev_neg (by simp) (spec_ask_body _ _ _ _ _ _ hp ht ho hl hk hx2))
        · rw [decide_eq_false h2, Bool.and_false]
          exact spec_ask_none ..
      · rw [decide_eq_false h1]
        exact Ev_neg (by simp) (spec_ask_none ..)
    have fin : (decide (kind ≠ 5) || plainB dst) = true → lineL kind path dst off len text = (if decide (0 ≤ off ∧ off ≤ 1000000000) && decide (0 ≤ len ∧ len ≤ 1000000000) then bodyL kind path dst off len text else Sb []) := fun h => by
      unfold lineL okL
      rw [h, decide_eq_true hk, decide_eq_true hx2, decide_eq_true hT, hpl]
      simp only [Bool.true_and, Bool.and_true]
    by_cases k5 : kind = 5
    · refine Ev_pos k5 (Ev.bind (spec_plain dst ht) ?_)
      cases hto : plainB dst with
      | false => exact Ev_neg (by simp) (Ev_eq (spec_ask_none ..) (no (by unfold okL; rw [hto]; simp [k5])).symm)
      | true => exact Ev_pos rfl (Ev_eq nums (fin (by rw [hto]; simp)).symm)
    · exact Ev_neg k5 (Ev_eq nums (fin (by simp [k5])).symm)
omit hx
theorem impl_ask_body (hk : 1 ≤ kind ∧ kind ≤ 11) (hx2 : text.size ≤ 200) : Ev (fun k => impl_AskLine.j0 k false kind path dst off len text)
    (if ((decide (kind ≠ 5) || plainB dst) && decide ((kind = 5 ∨ dst = Sb []) ∧ (kind = 6 ∨ kind = 7 ∨ off = 0) ∧ (kind = 6 ∨ kind = 8 ∨ len = 0) ∧ (kind = 7 ∨ text = Sb []))) = true then bodyL kind path dst off len text else Sb []) := by
  have hw := word_size kind
  have hsp : (⟨#[32]⟩ : ByteArray).size = 1 := rfl
  have hd1 := dec_size off ho.1 ho.2
  have hd2 := dec_size len hl.1 hl.2
  have hh := hexB_size text
  have hh2 : (dashB text).size ≤ 400 := by
    unfold dashB
    split
    · decide
    · omega
  have hd1' : (decB off).size ≤ 21 := hd1
  have hd2' : (decB len).size ≤ 21 := hd2
  refine Ev.step (fun k => by rw [impl_AskLine.j0]) ?_
  refine Ev_neg (by simp) (Ev_const (a := wordsL) rfl ?_)
  refine Ev_pos (by omega) (Ev_pos (by show kind < ((12 : Nat) : Int); omega) (Ev_pos (by omega) (Ev_pos (by simp only [ByteArray.size_append, hsp]; omega) ?_)))
  by_cases k5 : kind = 5
  · refine Ev_pos k5 (Ev.bind (impl_plain dst ht) ?_)
    cases hto : plainB dst with
    | false => exact Ev_neg (by simp) (Ev_eq (Ev_now fun _ => rfl) (by simp [k5]; rfl))
    | true =>
      refine Ev_pos rfl (Ev_pos (by omega) (Ev_pos (by simp only [ByteArray.size_append, hsp]; omega) (Ev_eq (impl_ask_end ..) ?_)))
      simp only [bodyL, if_pos k5, Sp, ByteArray.append_assoc]
      subst k5
      simp [show (⟨#[]⟩ : ByteArray) = Sb [] from rfl]
  refine Ev_neg k5 ?_
  by_cases k6 : kind = 6
  · refine Ev_pos k6 (Ev_const (impl_dec off ho) (Ev_pos (by omega) (Ev_pos (by simp only [ByteArray.size_append, hsp]; omega) (Ev_const (impl_dec len hl) ?_))))
    refine Ev_pos (by simp only [ByteArray.size_append, hsp]; omega) (Ev_pos (by simp only [ByteArray.size_append, hsp]; omega) (Ev_eq (impl_ask_end ..) ?_))
    simp only [bodyL, if_neg k5, if_pos k6, Sp, ByteArray.append_assoc]
    subst k6
    simp
  refine Ev_neg k6 ?_
  by_cases k7 : kind = 7
  · refine Ev_pos k7 (Ev_const (impl_dec off ho) (Ev_pos (by omega) (Ev_pos (by simp only [ByteArray.size_append, hsp]; omega) (Ev_const (impl_dash text (by omega)) ?_))))
    rw [if_pos (show text.size ≤ 20000 by omega)]
    refine Ev_pos (by simp only [ByteArray.size_append, hsp]; omega) (Ev_pos (by simp only [ByteArray.size_append, hsp]; omega) (Ev_eq (impl_ask_end ..) ?_))
    simp only [bodyL, if_neg k5, if_neg k6, if_pos k7, Sp, ByteArray.append_assoc]
    subst k7
    simp [Sb]
  refine Ev_neg k7 ?_
  by_cases k8 : kind = 8
  · refine Ev_pos k8 (Ev_const (impl_dec len hl) (Ev_pos (by omega) (Ev_pos (by simp only [ByteArray.size_append, hsp]; omega) (Ev_eq (impl_ask_end ..) ?_))))
    simp only [bodyL, if_neg k5, if_neg k6, if_neg k7, if_pos k8, Sp, ByteArray.append_assoc]
    subst k8
    simp
  refine Ev_neg k8 (Ev_eq (impl_ask_end ..) ?_)
  simp only [bodyL, if_neg k5, if_neg k6, if_neg k7, if_neg k8, Sp]
  simp [k5, k6, k7, k8]
include hx
theorem impl_ask : Ev (fun k => impl_AskLine.f k kind path dst off len text) (lineL kind path dst off len text) := by
  unfold impl_AskLine.f
  have no : okL kind path dst off len text = false → lineL kind path dst off len text = Sb [] := fun h => by unfold lineL; rw [h]; rfl
  have hok : impl_AskOk.f kind path dst off len text = some (decide (1 ≤ kind ∧ kind ≤ 11) && decide (text.size ≤ 200)) := by
    unfold impl_AskOk.f
    rw [impl_in, Option.bind_some]
    by_cases h : 1 ≤ kind ∧ kind ≤ 11
    · rw [if_pos (by simpa using h), decide_eq_true h]; congr 1; simp; omega
    · rw [if_neg (by simpa using h), decide_eq_false h]; rfl
  refine Ev_const hok ?_
  by_cases hk : 1 ≤ kind ∧ kind ≤ 11
  case neg => exact Ev_neg (by simp [hk]) (Ev_eq (impl_ask_none ..) (no (by unfold okL; simp [hk])).symm)
  by_cases hx2 : text.size ≤ 200
  case neg => exact Ev_neg (by simp [hx2]) (Ev_eq (impl_ask_none ..) (no (by unfold okL; simp [hx2])).symm)
  refine Ev_pos (by simp [hk, hx2]) (Ev.bind (impl_plain path hp) ?_)
  cases hpl : plainB path with
  | false => exact Ev_neg (by simp) (Ev_eq (impl_ask_none ..) (no (by unfold okL; rw [hpl]; simp)).symm)
  | true =>
    refine Ev_pos rfl (Ev_const (impl_in ..) ?_)
    by_cases h1 : 0 ≤ off ∧ off ≤ 1000000000
    case neg => exact Ev_neg (by simp [h1]) (Ev_eq (impl_ask_none ..) (no (by unfold okL; simp [h1])).symm)
    refine Ev_pos (by simp [h1]) (Ev_const (impl_in ..) ?_)
    by_cases h2 : 0 ≤ len ∧ len ≤ 1000000000
    case neg => rw [decide_eq_false h2]; exact Ev_eq (impl_ask_none ..) (no (by unfold okL; rw [decide_eq_false h2]; simp)).symm
    rw [decide_eq_true h2]
    refine Ev_eq (impl_ask_body _ _ _ _ _ _ hp ht ho hl hk hx2) ?_
    unfold lineL okL
    rw [decide_eq_true hk, decide_eq_true hx2, decide_eq_true h1, decide_eq_true h2, hpl]
    simp only [Bool.true_and, Bool.and_true]
end

/-! ### the sizes -/
theorem szAsk_some (kind : Int) (path dst : ByteArray) (off len : Int) (text : ByteArray) (hp : path.size ≤ maxLen) (ht : dst.size ≤ maxLen) (hx : text.size ≤ maxLen) :
    ∃ t, laws_szAsk.f kind path dst off len text 1048576 = some t ∧ (t < 0 ∨ (path.size ≤ 1048576 ∧ dst.size ≤ 1048576 ∧ text.size ≤ 1048576)) := by
  unfold maxLen at hp ht hx
  unfold laws_szAsk.f
  rw [wrap_id (n := 1048576 - (path.size : Int)) (by omega) (by omega)]
  by_cases h1 : 1048576 - (path.size : Int) < 0
  · exact ⟨_, by rw [if_pos h1], .inl (by omega)⟩
  rw [if_neg h1, wrap_id (n := 1048576 - (path.size : Int) - (dst.size : Int)) (by omega) (by omega)]
  by_cases h2 : 1048576 - (path.size : Int) - (dst.size : Int) < 0
  · exact ⟨_, by rw [if_pos h2], .inl (by omega)⟩
  rw [if_neg h2, wrap_id (n := 1048576 - (path.size : Int) - (dst.size : Int) - (text.size : Int)) (by omega) (by omega)]
  by_cases h3 : 1048576 - (path.size : Int) - (dst.size : Int) - (text.size : Int) < 0
  · exact ⟨_, by rw [if_pos h3], .inl (by omega)⟩
  exact ⟨_, by rw [if_neg h3], .inr ⟨by omega, by omega, by omega⟩⟩

/-! ### the line of an action -/
theorem line_size (kind : Int) (path dst : ByteArray) (off len : Int) (text : ByteArray) (hp : path.size ≤ 1048576) (ht : dst.size ≤ 1048576)
    (ho : -9223372036854775808 ≤ off ∧ off ≤ 9223372036854775807) (hl : -9223372036854775808 ≤ len ∧ len ≤ 9223372036854775807) (hx : text.size ≤ 1048576) : (lineL kind path dst off len text).size ≤ 100000000 := by
  have hw := word_size kind
  have hsp : Sp.size = 1 := rfl
  have hd1 : (decB off).size ≤ 21 := dec_size off ho.1 ho.2
  have hd2 : (decB len).size ≤ 21 := dec_size len hl.1 hl.2
  have hh : (dashB text).size ≤ 2097153 := by
    unfold dashB
    by_cases h : text.size = 0
    · rw [if_pos h]; decide
    · rw [if_neg h, hexB_size]; omega
  unfold lineL
  by_cases h0 : okL kind path dst off len text = true
  · rw [if_pos h0]
    unfold bodyL
    by_cases k5 : kind = 5
    · rw [if_pos k5]; simp only [ByteArray.size_append]; omega
    rw [if_neg k5]
    by_cases k6 : kind = 6
    · rw [if_pos k6]; simp only [ByteArray.size_append]; omega
    rw [if_neg k6]
    by_cases k7 : kind = 7
    · rw [if_pos k7]; simp only [ByteArray.size_append]; omega
    rw [if_neg k7]
    by_cases k8 : kind = 8
    · rw [if_pos k8]; simp only [ByteArray.size_append]; omega
    rw [if_neg k8]; simp only [ByteArray.size_append]; omega
  · rw [if_neg h0]; decide
section
variable (kind tenant k0 : Int) (path dst : ByteArray) (off len : Int) (text : ByteArray) (picks : Int)
def zA : Prop := k0 = 0 ∧ path = Sb [] ∧ dst = Sb [] ∧ off = 0 ∧ len = 0 ∧ text = Sb []
instance : Decidable (zA k0 path dst off len text) := by unfold zA; infer_instance
def askW : ByteArray := ⟨#[97, 115, 107, 32]⟩
def stepW : ByteArray := ⟨#[115, 116, 101, 112, 32]⟩
def fallW : ByteArray := ⟨#[102, 97, 108, 108, 32]⟩
def actL : ByteArray :=
  if ((1 ≤ kind ∧ kind ≤ 3) ∧ (0 ≤ tenant ∧ tenant ≤ 2)) ∧ picks ≥ 0 ∧ ¬ picks > 1000000000 then
    (if kind = 1 then (if picks = 0 ∧ lineL k0 path dst off len text ≠ Sb [] then askW ++ decB tenant ++ Sp ++ lineL k0 path dst off len text else Sb [])
    else if kind = 2 then (if zA k0 path dst off len text ∧ picks = 0 then stepW ++ decB tenant else Sb [])
    else if tenant = 0 ∧ zA k0 path dst off len text then fallW ++ decB picks else Sb [])
  else Sb []
theorem nil_b (s : ByteArray) : (s.toList == ([] : List UInt8)) = decide (s = Sb []) := by
  have h := beq_toList s (Sb [])
  rw [Sb_toList] at h
  exact h
theorem spec_act_end (x4 : ByteArray) (b0 b1 b2 : Int) (b3 b4 : ByteArray) (b5 b6 : Int) (b7 : ByteArray) (b8 : Int) :
    Ev (fun k => spec_ActLine.j0 k x4 kind tenant k0 path dst off len text picks b0 b1 b2 b3 b4 b5 b6 b7 b8)
      (if b0 = kind ∧ b1 = tenant ∧ (b2 = k0 ∧ b3 = path ∧ b4 = dst ∧ b5 = off ∧ b6 = len ∧ b7 = text) ∧ b8 = picks ∧ ¬ picks > 1000000000 then x4 else Sb []) := by
  refine Ev.step (fun k => by rw [spec_ActLine.j0]) ?_
  by_cases h : b0 = kind ∧ b1 = tenant ∧ (b2 = k0 ∧ b3 = path ∧ b4 = dst ∧ b5 = off ∧ b6 = len ∧ b7 = text) ∧ b8 = picks
  · obtain ⟨rfl, rfl, ⟨rfl, rfl, rfl, rfl, rfl, rfl⟩, rfl⟩ := h
    refine Ev_neg (by simp) ?_
    by_cases hp : b8 > 1000000000
    · exact Ev_eq (Ev_pos hp (Ev_now fun _ => rfl)) (if_neg (fun h => h.2.2.2.2 hp)).symm
    · exact Ev_eq (Ev_neg hp (Ev_now fun _ => rfl)) (if_pos ⟨rfl, rfl, ⟨rfl, rfl, rfl, rfl, rfl, rfl⟩, rfl, hp⟩).symm
  · refine Ev_eq (Ev_pos (eq_true_of_ne_false fun hf => h ?_) (Ev_now fun _ => rfl)) (if_neg (fun e => h ⟨e.1, e.2.1, e.2.2.1, e.2.2.2.1⟩)).symm
    simp only [beq_toList] at hf
    simpa [and_assoc] using hf
variable (hp : path.size ≤ 1048576) (ht : dst.size ≤ 1048576) (ho : -9223372036854775808 ≤ off ∧ off ≤ 9223372036854775807) (hl : -9223372036854775808 ≤ len ∧ len ≤ 9223372036854775807) (hx : text.size ≤ 1048576)
  (hp8 : -9223372036854775808 ≤ picks ∧ picks ≤ 9223372036854775807) (ht1 : -9223372036854775808 ≤ tenant ∧ tenant ≤ 9223372036854775807)
include hp ht ho hl hx hp8 ht1
theorem spec_act : Ev (fun k => spec_ActLine.f k kind tenant k0 path dst off len text picks) (actL kind tenant k0 path dst off len text picks) := by
  have hls := line_size k0 path dst off len text hp ht ho hl hx
  have hd1 : (decB tenant).size ≤ 21 := dec_size tenant ht1.1 ht1.2
  have hd2 : (decB picks).size ≤ 21 := dec_size picks hp8.1 hp8.2
  have s1 : (⟨#[97, 115, 107, 32]⟩ : ByteArray).size = 4 := rfl
  have s2 : (⟨#[32]⟩ : ByteArray).size = 1 := rfl
  unfold spec_ActLine.f
  have hok : spec_ActOk.f kind tenant k0 path dst off len text picks = some (decide (((1 ≤ kind ∧ kind ≤ 3) ∧ (0 ≤ tenant ∧ tenant ≤ 2)) ∧ picks ≥ 0)) := by
    unfold spec_ActOk.f
    rw [spec_in, Option.bind_some]
    by_cases h : 1 ≤ kind ∧ kind ≤ 3
    · rw [if_pos (by simpa using h), spec_in, Option.bind_some]
      by_cases h2 : 0 ≤ tenant ∧ tenant ≤ 2
      · rw [if_pos (by simpa using h2)]; congr 1; simp [h, h2]
      · rw [if_neg (by simpa using h2)]; simp [h2]
    · rw [if_neg (by simpa using h)]; simp [h]
  refine Ev_const hok ?_
  by_cases hA : ((1 ≤ kind ∧ kind ≤ 3) ∧ (0 ≤ tenant ∧ tenant ≤ 2)) ∧ picks ≥ 0
  case neg =>
    refine Ev_eq (Ev_neg (by simpa using hA) (Ev_now fun _ => rfl)) ?_
    unfold actL
    rw [if_neg (fun h => hA ⟨h.1, h.2.1⟩)]; rfl
  refine Ev_pos (by simpa using hA) ?_
  by_cases k1 : kind = 1
  · refine Ev_pos k1 (Ev.bind (spec_ask k0 path dst off len text hp ht ho hl hx) ?_)
    by_cases hn : lineL k0 path dst off len text = Sb []
    · refine Ev_pos (toList_nil.2 hn) (Ev_eq (Ev_now fun _ => rfl) ?_)
      unfold actL
      by_cases hb : picks > 1000000000
      · rw [if_neg (fun h => h.2.2 hb)]; rfl
      · rw [if_pos ⟨hA.1, hA.2, hb⟩, if_pos k1, if_neg (fun h => h.2 hn)]; rfl
    · refine Ev_neg (fun h => hn (toList_nil.1 h)) (Ev.bind (spec_dec tenant ht1.1 ht1.2) ?_)
      refine Ev_pos (by have := hd1; unfold decB at this; omega) (Ev_pos (by rw [ByteArray.size_append, s1]; have := hd1; unfold decB at this; omega) (Ev_pos (by rw [ByteArray.size_append, ByteArray.size_append, s1, s2]; have := hd1; unfold decB at this; omega) ?_))
      refine Ev_eq (spec_act_end ..) ?_
      by_cases h0 : picks = 0
      · rw [if_pos ⟨rfl, rfl, ⟨rfl, rfl, rfl, rfl, rfl, rfl⟩, h0.symm, by omega⟩]
        unfold actL
        rw [if_pos ⟨hA.1, hA.2, by omega⟩, if_pos k1, if_pos ⟨h0, hn⟩]; rfl
      · rw [if_neg (fun h => h0 h.2.2.2.1.symm)]
        unfold actL
        by_cases hb : picks > 1000000000
        · rw [if_neg (fun h => h.2.2 hb)]
        · rw [if_pos ⟨hA.1, hA.2, hb⟩, if_pos k1, if_neg (fun h => h0 h.1)]
  refine Ev_neg k1 ?_
  by_cases k2 : kind = 2
  · refine Ev_pos k2 (Ev.bind (spec_dec tenant ht1.1 ht1.2) (Ev_pos (by have := hd1; unfold decB at this; omega) ?_))
    refine Ev_eq (spec_act_end ..) ?_
    by_cases h0 : zA k0 path dst off len text ∧ picks = 0
    · rw [if_pos]
      · unfold actL
        rw [if_pos ⟨hA.1, hA.2, by omega⟩, if_neg k1, if_pos k2, if_pos h0]; rfl
      · obtain ⟨⟨rfl, rfl, rfl, rfl, rfl, rfl⟩, rfl⟩ := h0
        exact ⟨rfl, rfl, ⟨rfl, rfl, rfl, rfl, rfl, rfl⟩, rfl, by omega⟩
    · rw [if_neg]
      · unfold actL
        by_cases hb : picks > 1000000000
        · rw [if_neg (fun h => h.2.2 hb)]
        · rw [if_pos ⟨hA.1, hA.2, hb⟩, if_neg k1, if_pos k2, if_neg h0]
      · rintro ⟨_, _, ⟨e0, e1, e2, e3, e4, e5⟩, e6, _⟩
        exact h0 ⟨⟨e0.symm, e1.symm, e2.symm, e3.symm, e4.symm, e5.symm⟩, e6.symm⟩
  refine Ev_neg k2 (Ev.bind (spec_dec picks hp8.1 hp8.2) (Ev_pos (by have := hd2; unfold decB at this; omega) ?_))
  refine Ev_eq (spec_act_end ..) ?_
  by_cases h0 : tenant = 0 ∧ zA k0 path dst off len text
  · by_cases hb : picks > 1000000000
    · rw [if_neg (fun h => h.2.2.2.2 hb)]
      unfold actL
      rw [if_neg (fun h => h.2.2 hb)]
    · rw [if_pos]
      · unfold actL
        rw [if_pos ⟨hA.1, hA.2, hb⟩, if_neg k1, if_neg k2, if_pos h0]; rfl
      · obtain ⟨rfl, ⟨rfl, rfl, rfl, rfl, rfl, rfl⟩⟩ := h0
        exact ⟨rfl, rfl, ⟨rfl, rfl, rfl, rfl, rfl, rfl⟩, rfl, hb⟩
  · rw [if_neg]
    · unfold actL
      by_cases hb : picks > 1000000000
      · rw [if_neg (fun h => h.2.2 hb)]
      · rw [if_pos ⟨hA.1, hA.2, hb⟩, if_neg k1, if_neg k2, if_neg h0]
    · rintro ⟨_, d0, ⟨e0, e1, e2, e3, e4, e5⟩, _, _⟩
      exact h0 ⟨d0.symm, ⟨e0.symm, e1.symm, e2.symm, e3.symm, e4.symm, e5.symm⟩⟩
theorem impl_act : Ev (fun k => impl_ActLine.f k kind tenant k0 path dst off len text picks) (actL kind tenant k0 path dst off len text picks) := by
  have hls := line_size k0 path dst off len text hp ht ho hl hx
  have hd1 : (decB tenant).size ≤ 21 := dec_size tenant ht1.1 ht1.2
  have hd2 : (decB picks).size ≤ 21 := dec_size picks hp8.1 hp8.2
  have s1 : (⟨#[97, 115, 107, 32]⟩ : ByteArray).size = 4 := rfl
  have s2 : (⟨#[32]⟩ : ByteArray).size = 1 := rfl
  unfold impl_ActLine.f
  have hok : impl_ActOk.f kind tenant k0 path dst off len text picks = some (decide (((1 ≤ kind ∧ kind ≤ 3) ∧ (0 ≤ tenant ∧ tenant ≤ 2)) ∧ picks ≥ 0)) := by
    unfold impl_ActOk.f
    rw [impl_in, Option.bind_some]
    by_cases h : 1 ≤ kind ∧ kind ≤ 3
    · rw [if_pos (by simpa using h), impl_in, Option.bind_some]
      by_cases h2 : 0 ≤ tenant ∧ tenant ≤ 2
      · rw [if_pos (by simpa using h2)]; congr 1; simp [h, h2]
      · rw [if_neg (by simpa using h2)]; simp [h2]
    · rw [if_neg (by simpa using h)]; simp [h]
  refine Ev_const hok ?_
  by_cases hA : (((1 ≤ kind ∧ kind ≤ 3) ∧ (0 ≤ tenant ∧ tenant ≤ 2)) ∧ picks ≥ 0)
  case neg =>
    have ea : actL kind tenant k0 path dst off len text picks = Sb [] := by
      unfold actL
      rw [if_neg (fun h => hA ⟨h.1, h.2.1⟩)]
    rw [ea]
    refine Ev_neg (by simpa using hA) (Ev.step (fun k => by rw [impl_ActLine.j0]) ?_)
    exact Ev_pos rfl (Ev_now fun _ => rfl)
  refine Ev_pos (by simpa using hA) (Ev.step (fun k => by rw [impl_ActLine.j0]) ?_)
  by_cases hb : picks > 1000000000
  · refine Ev_eq (Ev_pos (by simpa using hb) (Ev_now fun _ => rfl)) ?_
    unfold actL
    rw [if_neg (fun h => h.2.2 hb)]; rfl
  refine Ev_neg (by simpa using hb) ?_
  have last : ∀ b : Bool, (b = true ↔ kind = 2 ∧ zA k0 path dst off len text ∧ picks = 0) → kind ≠ 1 → Ev (fun k => impl_ActLine.j2 k b kind tenant k0 path dst off len text picks) (actL kind tenant k0 path dst off len text picks) := by
    intro b hbb k1
    refine Ev.step (fun k => by rw [impl_ActLine.j2]) ?_
    by_cases hc : b = true
    · refine Ev_eq (Ev_pos hc (Ev_const (impl_dec tenant ht1) (Ev_pos (by omega) (Ev_now fun _ => rfl)))) ?_
      have := hbb.1 hc
      unfold actL
      rw [if_pos ⟨hA.1, hA.2, hb⟩, if_neg k1, if_pos this.1, if_pos this.2]; rfl
    · refine Ev_neg hc ?_
      by_cases k3 : kind = 3
      · refine Ev_pos k3 ?_
        simp only [nil_b]
        by_cases hz : tenant = 0 ∧ zA k0 path dst off len text
        · refine Ev_eq (Ev_pos ?_ (Ev_const (impl_dec picks hp8) (Ev_pos (by omega) (Ev_now fun _ => rfl)))) ?_
          · obtain ⟨rfl, ⟨rfl, rfl, rfl, rfl, rfl, rfl⟩⟩ := hz
            simp [k3]
          · unfold actL
            rw [if_pos ⟨hA.1, hA.2, hb⟩, if_neg k1, if_neg (by omega), if_pos hz]; rfl
        · refine Ev_eq (Ev_neg (fun h => hz ?_) (Ev_now fun _ => rfl)) ?_
          · unfold zA
            simpa [k3] using h
          · unfold actL
            rw [if_pos ⟨hA.1, hA.2, hb⟩, if_neg k1, if_neg (by omega), if_neg hz]; rfl
      · refine Ev_eq (Ev_neg k3 (Ev_now fun _ => rfl)) ?_
        unfold actL
        rw [if_pos ⟨hA.1, hA.2, hb⟩, if_neg k1, if_pos (by omega), if_neg (fun h => hc (hbb.2 ⟨by omega, h⟩))]; rfl
  have mid : ∀ b : Bool, (b = true → kind = 1 ∧ picks = 0) → (b = false → kind = 1 → picks ≠ 0) → Ev (fun k => impl_ActLine.j1 k b kind tenant k0 path dst off len text picks) (actL kind tenant k0 path dst off len text picks) := by
    intro b h1 h2
    refine Ev.step (fun k => by rw [impl_ActLine.j1]) ?_
    cases b with
    | true =>
      obtain ⟨k1, p0⟩ := h1 rfl
      refine Ev_pos rfl (Ev.bind (impl_ask k0 path dst off len text hp ht ho hl hx) ?_)
      by_cases hn : lineL k0 path dst off len text = Sb []
      · refine Ev_eq (Ev_pos (toList_nil.2 hn) (Ev_now fun _ => rfl)) ?_
        unfold actL
        rw [if_pos ⟨hA.1, hA.2, hb⟩, if_pos k1, if_neg (fun h => h.2 hn)]; rfl
      · refine Ev_eq (Ev_neg (fun h => hn (toList_nil.1 h)) (Ev_const (impl_dec tenant ht1) (Ev_pos (by omega) (Ev_pos (by rw [ByteArray.size_append, s1]; omega) (Ev_pos (by rw [ByteArray.size_append, ByteArray.size_append, s1, s2]; omega) (Ev_now fun _ => rfl)))))) ?_
        unfold actL
        rw [if_pos ⟨hA.1, hA.2, hb⟩, if_pos k1, if_pos ⟨p0, hn⟩]; rfl
    | false =>
      refine Ev_neg (by simp) ?_
      by_cases k1 : kind = 1
      · have p0 := h2 rfl k1
        refine Ev_eq (Ev_neg (by omega) (Ev.step (fun k => by rw [impl_ActLine.j2]) (Ev_neg (by simp) (Ev_neg (by omega) (Ev_now fun _ => rfl))))) ?_
        unfold actL
        rw [if_pos ⟨hA.1, hA.2, hb⟩, if_pos k1, if_neg (fun h => p0 h.1)]; rfl
      · by_cases k2 : kind = 2
        · refine Ev_pos k2 (last _ ?_ k1)
          simp only [nil_b]
          unfold zA
          simp [k2, and_assoc]
        · exact Ev_neg k2 (last false (by simp [k2]) k1)
  by_cases k1 : kind = 1
  · refine Ev_pos k1 (mid _ (fun h => ⟨k1, by simpa using h⟩) (fun h _ => by simpa using h))
  · exact Ev_neg k1 (mid false (by simp) (fun _ h => absurd h k1))
end

/-! ### the law -/
theorem pure : ∀ (x0 : S30), good30 x0 → ∃ k, laws_FnExactActLine.f k x0.f0 x0.f1 x0.f2.f0 x0.f2.f1 x0.f2.f2 x0.f2.f3 x0.f2.f4 x0.f2.f5 x0.f3 = some true := by
  rintro ⟨kind, tenant, ⟨k0, path, dst, off, len, text⟩, picks⟩ ⟨hk, hten, ⟨hk0, hp, ht, ho, hl, hx⟩, hpk⟩
  refine Ev.rounds ?_
  unfold laws_FnExactActLine.f
  obtain ⟨t, e, h⟩ := szAsk_some k0 path dst off len text hp ht hx
  by_cases hn : t < 0
  · refine Ev_const (show laws_szAct.f kind tenant k0 path dst off len text picks 1048576 = some (-1) from ?_) (Ev_pos (by omega) (Ev_now fun _ => rfl))
    unfold laws_szAct.f
    rw [e, Option.bind_some, if_pos hn]
  obtain ⟨h1, h2, h3⟩ := h.resolve_left hn
  refine Ev_const (show laws_szAct.f kind tenant k0 path dst off len text picks 1048576 = some t from ?_) (Ev_neg hn (Ev_const rfl ?_))
  · unfold laws_szAct.f
    rw [e, Option.bind_some, if_neg hn]
  refine Ev.bind (spec_act kind tenant k0 path dst off len text picks h1 h2 (wf_i64 ho) (wf_i64 hl) h3 (wf_i64 hpk) (wf_i64 hten)) (Ev_const rfl ?_)
  refine Ev.bind (impl_act kind tenant k0 path dst off len text picks h1 h2 (wf_i64 ho) (wf_i64 hl) h3 (wf_i64 hpk) (wf_i64 hten)) ?_
  exact Ev_pos rfl (Ev_now fun _ => rfl)

end Go.Proofs.YtggfonljcbmjmaaDoor.PFnExactActLine
