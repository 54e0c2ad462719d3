import Derived.Test.YtggfonljcbmjmaaDoorPFnExactReadGeox5
import Derived.Test.YtggfonljcbmjmaaDoorOFnExactReadGeo
import Derived.Lib.HexFns
import Derived.Lib.ItoaLen
import Derived.Lib.ItoaMem
import Derived.Lib.LazyBuf
import Derived.Lib.Strings
import Derived.Lib.AtoiTie
import Derived.Lib.SplitLaws
import Derived.Lib.Fields
namespace Go.Proofs.YtggfonljcbmjmaaDoor.PFnExactReadGeo
open Go.RowKit Go.Proofs.YtggfonljcbmjmaaDoorW.PrintWords Go.Proofs.YtggfonljcbmjmaaDoorW.PrintLast Go.Proofs.YtggfonljcbmjmaaDoorW.PrintMore
set_option linter.unusedVariables false
set_option linter.unusedSimpArgs false
set_option linter.unusedSectionVars false

/-! ### numbers, bytes, rounds -/
theorem wf_i64 {n : Int} (h : (Lit.int .i64 n).wf = true) : -9223372036854775808 ≤ n ∧ n ≤ 9223372036854775807 := by
  simpa [Lit.wf, IntKind.min, IntKind.max, IntKind.signed, IntKind.bits] using h
theorem wrap_id {n : Int} (h0 : -9223372036854775808 ≤ n) (h1 : n ≤ 9223372036854775807) : wrap64 n = n := by unfold wrap64; omega
/-- A string by its bytes. -/
def Sb (l : List UInt8) : ByteArray := ⟨l.toArray⟩
theorem Sb_toList (l : List UInt8) : (Sb l).toList = l := by rw [Lib.toList_data]; rfl
theorem Sb_size (l : List UInt8) : (Sb l).size = l.length := by simp [Sb, ByteArray.size]
theorem Sb_append (a b : List UInt8) : Sb a ++ Sb b = Sb (a ++ b) := by
  apply ByteArray.ext
  simp [Sb]
theorem Sb_of (s : ByteArray) : s = Sb s.data.toList := by
  cases s with
  | mk d => simp [Sb]
theorem toList_inj {a b : ByteArray} : a.toList = b.toList ↔ a = b := by
  constructor
  · intro h
    rw [Lib.toList_data, Lib.toList_data] at h
    cases a; cases b
    congr 1
    exact Array.toList_inj.1 h
  · rintro rfl; rfl
theorem toList_nil {a : ByteArray} : a.toList = ([] : List UInt8) ↔ a = Sb [] := by
  have h := @toList_inj a (Sb [])
  rw [Sb_toList] at h
  exact h
theorem beq_toList (a b : ByteArray) : (a.toList == b.toList) = decide (a = b) := by
  rw [Bool.eq_iff_iff, beq_iff_eq, decide_eq_true_iff]
  exact toList_inj
theorem Ev_now {α : Type} {g : Nat → Option α} {r : α} (h : ∀ k, g k = some r) : Ev g r := ⟨0, fun k _ => h k⟩
theorem Ev_pos {α : Type} {c : Prop} {i : Decidable c} {f g : Nat → Option α} {r : α} (hc : c) (h : Ev f r) : Ev (fun k => @ite _ c i (f k) (g k)) r := by
  simp only [if_pos hc]; exact h
theorem Ev_neg {α : Type} {c : Prop} {i : Decidable c} {f g : Nat → Option α} {r : α} (hc : ¬ c) (h : Ev g r) : Ev (fun k => @ite _ c i (f k) (g k)) r := by
  simp only [if_neg hc]; exact h
theorem Ev_const {α β : Type} {x : Option α} {a : α} {f : Nat → α → Option β} {r : β} (hx : x = some a) (h : Ev (fun k => f k a) r) : Ev (fun k => x.bind (f k)) r := by
  subst hx; exact h
theorem Ev_ite {α : Type} {c : Prop} {i : Decidable c} {f g : Nat → Option α} {a b : α} (h : c → Ev f a) (h' : ¬ c → Ev g b) : Ev (fun k => @ite _ c i (f k) (g k)) (if c then a else b) := by
  by_cases hc : c
  · simp only [if_pos hc]; exact h hc
  · simp only [if_neg hc]; exact h' hc
theorem Ev_eq {α : Type} {g : Nat → Option α} {r r' : α} (h : Ev g r) (e : r = r') : Ev g r' := e ▸ h
theorem bt_Sb (l : List UInt8) (i : Nat) (h : i < l.length) : bt (Sb l) i = (l[i].toNat : Int) := by
  unfold bt
  rw [dif_pos (by rw [Sb_size]; simpa using h)]
  rfl
theorem bt_at' (s : ByteArray) (i : Nat) (h : i < s.size) : bt s i = ((s.data.toList[i]'(by simpa using h)).toNat : Int) := by
  unfold bt
  rw [dif_pos (by simpa using h)]
  rfl

/-! ### between two bounds -/
theorem spec_in (a b c : Int) : spec_l01In.f a b c = some (decide (b ≤ a ∧ a ≤ c)) := by
  unfold spec_l01In.f
  by_cases h : a ≥ b
  · rw [if_pos h]; congr 1; simp [h]
  · rw [if_neg h]; congr 1; simp; omega

/-! ### the reference's numerals -/
theorem spec_fig (d : Int) (h0 : 0 ≤ d) (h : d < 10) : spec_l01Figure.f d = some (48 + d) := by
  unfold spec_l01Figure.f
  rw [if_pos h, wrap_id (by omega) (by omega)]
  congr 1; omega
theorem spec_fig_hex (d : Nat) (h : d < 16) : spec_l01Figure.f d = some ((Lib.Hx.digit d).toNat : Int) := by
  unfold spec_l01Figure.f
  have : d = 0 ∨ d = 1 ∨ d = 2 ∨ d = 3 ∨ d = 4 ∨ d = 5 ∨ d = 6 ∨ d = 7 ∨ d = 8 ∨ d = 9 ∨ d = 10 ∨ d = 11 ∨ d = 12 ∨ d = 13 ∨ d = 14 ∨ d = 15 := by omega
  rcases this with rfl | rfl | rfl | rfl | rfl | rfl | rfl | rfl | rfl | rfl | rfl | rfl | rfl | rfl | rfl | rfl <;> decide +kernel
theorem nums_one (d : Nat) (h : d < 10) : strOfNums ([48 + (d : Int)] : List Int) = Sb [UInt8.ofNat (48 + d)] := by
  have e : (48 + (d : Int)).toNat = 48 + d := by omega
  unfold strOfNums Sb
  simp [e]
theorem dec_loop (below : Bool) (u : Nat) : ∀ (x : Int) (acc : ByteArray), (x = u ∨ x = -(u : Int)) → 0 < u → u ≤ 9223372036854775808 → (u = 9223372036854775808 → x < 0) → acc.size + Lib.nDigits u ≤ 1000 →
    Ev (fun k => spec_Decimal.l0 k x below acc) (if below = true then (⟨#[45]⟩ : ByteArray) ++ (Sb (Lib.decDigits u) ++ acc) else Sb (Lib.decDigits u) ++ acc) := by
  induction u using Nat.strongRecOn with
  | _ u ih =>
  intro x acc hx hu hm hm2 hs
  refine Ev.step (fun k => by rw [spec_Decimal.l0]) ?_
  refine Ev_neg (by omega) ?_
  have hd : Int.tmod x 10 = (if x < 0 then -((u % 10 : Nat) : Int) else ((u % 10 : Nat) : Int)) := by
    rcases hx with rfl | rfl
    · rw [if_neg (by omega), Int.tmod_eq_emod_of_nonneg (by omega)]; omega
    · rw [if_pos (by omega), Int.neg_tmod, Int.tmod_eq_emod_of_nonneg (by omega)]; omega
  have hq : Int.tdiv x 10 = (if x < 0 then -((u / 10 : Nat) : Int) else ((u / 10 : Nat) : Int)) := by
    rcases hx with rfl | rfl
    · rw [if_neg (by omega), Int.tdiv_eq_ediv_of_nonneg (by omega)]; omega
    · rw [if_pos (by omega), Int.neg_tdiv, Int.tdiv_eq_ediv_of_nonneg (by omega)]; omega
  have hw : wrap64 (Int.tdiv x 10) = Int.tdiv x 10 := wrap_id (by rw [hq]; split <;> omega) (by rw [hq]; split <;> omega)
  have hlen : (Sb [UInt8.ofNat (48 + u % 10)]).size = 1 := by rw [Sb_size]; rfl
  have hstep : Ev (fun k => spec_Decimal.l0 k (wrap64 (Int.tdiv x 10)) below (Sb [UInt8.ofNat (48 + u % 10)] ++ acc)) (if below = true then (⟨#[45]⟩ : ByteArray) ++ (Sb (Lib.decDigits u) ++ acc) else Sb (Lib.decDigits u) ++ acc) := by
    by_cases h10 : u < 10
    · have hz : wrap64 (Int.tdiv x 10) = 0 := by rw [hw, hq]; split <;> omega
      rw [hz]
      have hdd : Lib.decDigits u = [UInt8.ofNat (48 + u % 10)] := by rw [Lib.decDigits_one h10, Nat.mod_eq_of_lt h10]
      rw [hdd]
      refine Ev.step (fun k => by rw [spec_Decimal.l0]) ?_
      refine Ev_pos rfl ?_
      have hsz : (Sb [UInt8.ofNat (48 + u % 10)] ++ acc).size ≤ 1001 := by rw [ByteArray.size_append, hlen]; omega
      cases below with
      | true =>
        refine Ev_pos rfl ?_
        refine Ev_pos (by omega) ?_
        exact Ev_now fun k => rfl
      | false => exact Ev_neg (by simp) (Ev_now fun k => rfl)
    · have hdd : Lib.decDigits u = Lib.decDigits (u / 10) ++ [UInt8.ofNat (48 + u % 10)] := by rw [Lib.decDigits, dif_neg h10]
      have hnd := Lib.nDigits_big h10
      rw [hdd, ← Sb_append, ByteArray.append_assoc]
      refine ih (u / 10) (by omega) _ _ ?_ (by omega) (by omega) (by omega) (by rw [ByteArray.size_append, hlen]; omega)
      rw [hw, hq]
      split
      · exact .inr rfl
      · exact .inl rfl
  have h1 : ∀ t : Int, t = ((u % 10 : Nat) : Int) → spec_l01Figure.f t = some (48 + ((u % 10 : Nat) : Int)) := fun t ht => by
    rw [ht]; exact spec_fig _ (by omega) (by omega)
  have hsum : (Sb [UInt8.ofNat (48 + u % 10)]).size + acc.size ≤ 9223372036854775807 := by rw [hlen]; omega
  by_cases hneg : Int.tmod x 10 < 0
  · refine Ev_pos hneg ?_
    have ht : wrap64 (-(Int.tmod x 10)) = ((u % 10 : Nat) : Int) := by
      rw [wrap_id (by omega) (by rw [hd]; split <;> omega), hd]; rw [hd] at hneg; split at hneg <;> split <;> omega
    refine Ev_const (h1 _ ht) ?_
    refine Ev_const rfl ?_
    rw [nums_one _ (by omega)]
    exact Ev_pos hsum hstep
  · refine Ev_neg hneg ?_
    have ht : Int.tmod x 10 = ((u % 10 : Nat) : Int) := by
      rw [hd]; rw [hd] at hneg; split at hneg <;> split <;> omega
    refine Ev_const (h1 _ ht) ?_
    refine Ev_const rfl ?_
    rw [nums_one _ (by omega)]
    exact Ev_pos hsum hstep
theorem nDigits_le (u : Nat) (h : u ≤ 9223372036854775808) : Lib.nDigits u ≤ 21 := by
  have := Lib.itoa_length_le (-(u : Int)) (by omega) (by omega)
  by_cases h0 : 1 ≤ u
  · rw [Lib.itoa_neg u h0, List.length_cons, Lib.decDigits_length] at this; omega
  · obtain rfl : u = 0 := by omega
    rw [Lib.nDigits_small (by omega)]; omega
theorem spec_dec (n : Int) (h0 : -9223372036854775808 ≤ n) (h1 : n ≤ 9223372036854775807) : Ev (fun k => spec_Decimal.f k n) (Sb (Lib.itoa n)) := by
  unfold spec_Decimal.f
  by_cases hz : n = 0
  · subst hz
    exact Ev_pos rfl (Ev_now fun k => by rw [show (0 : Int) = ((0 : Nat) : Int) from rfl, Lib.itoa_nonneg, Lib.decDigits_one (by omega)]; rfl)
  · refine Ev_neg hz ?_
    refine Ev_eq (dec_loop _ n.natAbs n _ (by omega) (by omega) (by omega) (by omega) ?_) ?_
    · have := nDigits_le n.natAbs (by omega)
      show 0 + _ ≤ _
      omega
    · have he : ∀ l, Sb l ++ (⟨#[]⟩ : ByteArray) = Sb l := fun l => by rw [show (⟨#[]⟩ : ByteArray) = Sb [] from rfl, Sb_append, List.append_nil]
      unfold Lib.itoa
      by_cases hn : n < 0
      · rw [if_pos (by simpa using hn), if_pos hn, he, show (⟨#[45]⟩ : ByteArray) = Sb [45] from rfl, Sb_append]; rfl
      · rw [if_neg (by simpa using hn), if_neg hn, he, show n.natAbs = n.toNat by omega]
theorem dec_size (n : Int) (h0 : -9223372036854775808 ≤ n) (h1 : n ≤ 9223372036854775807) : (Sb (Lib.itoa n)).size ≤ 21 := by
  rw [Sb_size]; exact Lib.itoa_length_le n h0 h1

/-! ### lists of strings: their size, their copy, their compare -/
def sumS (l : List ByteArray) : Nat := (l.map (·.size)).sum
theorem sumS_cons (a : ByteArray) (l : List ByteArray) : sumS (a :: l) = a.size + sumS l := by unfold sumS; simp
theorem sumS_mem {a : ByteArray} {l : List ByteArray} (h : a ∈ l) : a.size ≤ sumS l := by
  induction l with
  | nil => cases h
  | cons b t ih =>
    rw [sumS_cons]
    rcases List.mem_cons.1 h with rfl | h
    · omega
    · have := ih h; omega
theorem rdOf_get (l : List ByteArray) (i : Nat) (h : i < l.length) : rdOf ByteArray.empty l (i : Int) = l[i] := by
  unfold rdOf
  rw [List.getD_eq_getElem?_getD, show ((i : Int)).toNat = i from rfl, List.getElem?_eq_getElem h]
  rfl

/-! ### all of a list -/
theorem all_split (l : List UInt8) (p : UInt8 → Bool) (i : Nat) (h : i < l.length) (hp : (l.take i).all p = true) : l.all p = (p l[i] && (l.drop (i + 1)).all p) := by
  have h1 : l = l.take i ++ (l[i] :: l.drop (i + 1)) := by rw [← List.drop_eq_getElem_cons h, List.take_append_drop]
  conv => lhs; rw [h1, List.all_append, hp, List.all_cons]
  simp
theorem take_all (l : List UInt8) (p : UInt8 → Bool) (i : Nat) (h : i < l.length) (hp : (l.take i).all p = true) (hi : p l[i] = true) : (l.take (i + 1)).all p = true := by
  rw [List.take_succ_eq_append_getElem h, List.all_append, hp]; simp [hi]

/-! ### a number's text, read again -/
theorem decFrom_append (a b : List UInt8) : ∀ m, Lib.decFrom m (a ++ b) = (Lib.decFrom m a).bind fun n => Lib.decFrom n b := by
  induction a with
  | nil => intro m; rfl
  | cons x t ih =>
    intro m
    show (match Lib.digitVal x with | some d => Lib.decFrom (m * 10 + d) (t ++ b) | none => none) = (match Lib.digitVal x with | some d => Lib.decFrom (m * 10 + d) t | none => none).bind fun n => Lib.decFrom n b
    cases Lib.digitVal x with
    | none => rfl
    | some d => exact ih _
theorem digit_fig (d : Nat) (h : d < 10) : Lib.digitVal (UInt8.ofNat (48 + d)) = some d := by
  have e : (UInt8.ofNat (48 + d)).toNat = 48 + d := by simp [UInt8.toNat_ofNat']; omega
  unfold Lib.digitVal
  rw [e, if_pos (by omega)]
  congr 1; omega
theorem decFrom_digits (u : Nat) : Lib.decFrom 0 (Lib.decDigits u) = some u := by
  induction u using Nat.strongRecOn with
  | _ u ih =>
    rw [Lib.decDigits]
    by_cases h : u < 10
    · rw [dif_pos h]
      unfold Lib.decFrom
      rw [digit_fig u h]
      show Lib.decFrom (0 * 10 + u) [] = _
      unfold Lib.decFrom
      congr 1; omega
    · rw [dif_neg h, decFrom_append, ih (u / 10) (by omega), Option.bind_some]
      unfold Lib.decFrom
      rw [digit_fig (u % 10) (by omega)]
      show Lib.decFrom (u / 10 * 10 + u % 10) [] = _
      unfold Lib.decFrom
      congr 1; omega
theorem digits_len (k : Nat) : ∀ u, u < 10 ^ (k + 1) → (Lib.decDigits u).length ≤ k + 1 := by
  induction k with
  | zero =>
    intro u h
    rw [Lib.decDigits, dif_pos (by simpa using h)]; simp
  | succ k ih =>
    intro u h
    rw [Lib.decDigits]
    by_cases h0 : u < 10
    · rw [dif_pos h0]; simp
    · rw [dif_neg h0, List.length_append]
      have := ih (u / 10) (by rw [Nat.pow_succ] at h; omega)
      simp; omega
theorem digits_ten (u : Nat) (h : u ≤ 1000000000) : (Lib.decDigits u).length ≤ 10 := digits_len 9 u (by omega)
theorem atoi_digits (u : Nat) (h : u ≤ 1000000000) : Lib.atoiAll (Lib.decDigits u) = .ok (u : Int) := by
  have hl := digits_ten u h
  rw [Lib.atoiAll_short _ (by omega)]
  have hd := decFrom_digits u
  cases he : Lib.decDigits u with
  | nil =>
    rw [Lib.decDigits] at he
    by_cases h0 : u < 10
    · rw [dif_pos h0] at he; cases he
    · rw [dif_neg h0] at he; simp at he
  | cons b r =>
    rw [he] at hd
    have hb : b ≠ 45 ∧ b ≠ 43 := by
      unfold Lib.decFrom at hd
      constructor <;> (rintro rfl; simp [Lib.digitVal] at hd)
    have hn : Lib.decNat (b :: r) = some u := by
      unfold Lib.decNat
      simpa using hd
    show Lib.NumEnd.ofOption (if (b == 45) = true then _ else if (b == 43) = true then _ else _) = _
    rw [if_neg (by simpa using hb.1), if_neg (by simpa using hb.2), hn]
    rfl
/-- The number that a text tells, and whether it tells one. -/
def decR (s : ByteArray) : Int × Bool :=
  if s.size ≤ 10 then (match Lib.decFrom 0 s.data.toList with
    | some n => if n ≤ 1000000000 ∧ Sb (Lib.decDigits n) = s then ((n : Int), true) else (0, false)
    | none => (0, false)) else (0, false)
theorem decR_of (n : Nat) (h : n ≤ 1000000000) : decR (Sb (Lib.decDigits n)) = ((n : Int), true) := by
  unfold decR
  rw [if_pos (by rw [Sb_size]; exact digits_ten n h), show (Sb (Lib.decDigits n)).data.toList = Lib.decDigits n from rfl, decFrom_digits]
  show (if _ then _ else _) = _
  rw [if_pos ⟨h, rfl⟩]
theorem decR_cases (s : ByteArray) : (∃ n : Nat, n ≤ 1000000000 ∧ s = Sb (Lib.decDigits n) ∧ decR s = ((n : Int), true)) ∨ (decR s = (0, false) ∧ ∀ n : Nat, n ≤ 1000000000 → s ≠ Sb (Lib.decDigits n)) := by
  by_cases h : ∃ n : Nat, n ≤ 1000000000 ∧ s = Sb (Lib.decDigits n)
  · obtain ⟨n, h1, rfl⟩ := h
    exact .inl ⟨n, h1, rfl, decR_of n h1⟩
  · refine .inr ⟨?_, fun n h1 h2 => h ⟨n, h1, h2⟩⟩
    unfold decR
    split
    · split
      · rw [if_neg (fun e => h ⟨_, e.1, e.2.symm⟩)]
      · rfl
    · rfl
theorem decR_small (s : ByteArray) : 0 ≤ (decR s).1 ∧ (decR s).1 ≤ 1000000000 := by
  rcases decR_cases s with ⟨n, h, _, e⟩ | ⟨e, _⟩
  · rw [e]; exact ⟨by omega, by show (n : Int) ≤ _; omega⟩
  · rw [e]; exact ⟨by decide, by decide⟩
theorem impl_rd (s : ByteArray) (hs : s.size ≤ 1048576) : impl_ReadDecimal.f s = some (decR s) := by
  unfold impl_ReadDecimal.f
  rw [if_pos hs]
  rcases decR_cases s with ⟨n, h, rfl, e⟩ | ⟨e, hno⟩
  · rw [e, show (Sb (Lib.decDigits n)).data.toList = Lib.decDigits n from rfl, atoi_digits n h]
    show (if _ then _ else _) = _
    rw [if_pos ⟨by omega, by rw [Lib.itoa_nonneg]; rfl⟩]
  · rw [e]
    rcases ha : Lib.atoiAll s.data.toList with v | _ | _
    rotate_left
    · rfl
    · rfl
    · show (if _ then _ else _) = _
      rw [if_neg]
      rintro ⟨⟨h0, h1⟩, h2⟩
      obtain ⟨u, rfl⟩ : ∃ u : Nat, v = u := ⟨v.toNat, by omega⟩
      rw [Lib.itoa_nonneg] at h2
      exact hno u (by omega) (toList_inj.1 h2).symm
theorem spec_rd_loop (s : ByteArray) (hs : s.size ≤ 10) (d : Nat) : ∀ (i m : Nat), i + d = s.size → m < 10 ^ i → Lib.decFrom 0 (s.data.toList.take i) = some m →
    Ev (fun k => spec_ReadDecimal.l0 k s (m : Int) (i : Int)) (decR s) := by
  induction d with
  | zero =>
    intro i m hi hm hd
    have ht : s.data.toList.take i = s.data.toList := List.take_of_length_le (by simp; omega)
    rw [ht] at hd
    have hm10 : m < 10 ^ 10 := Nat.lt_of_lt_of_le hm (Nat.pow_le_pow_right (by omega) (by omega))
    refine Ev.step (fun k => by rw [spec_ReadDecimal.l0]) (Ev_neg (by omega) ?_)
    have er : decR s = if m ≤ 1000000000 ∧ Sb (Lib.decDigits m) = s then ((m : Int), true) else (0, false) := by
      unfold decR
      rw [if_pos hs, hd]
    by_cases hb : (m : Int) > 1000000000
    · exact Ev_eq (Ev_pos hb (Ev_now fun _ => rfl)) (by rw [er, if_neg (fun e => by omega)])
    · refine Ev_neg hb (Ev.bind (spec_dec (m : Int) (by omega) (by omega)) ?_)
      rw [Lib.itoa_nonneg]
      by_cases hq : Sb (Lib.decDigits m) = s
      · exact Ev_eq (Ev_pos (toList_inj.2 hq) (Ev_now fun _ => rfl)) (by rw [er, if_pos ⟨by omega, hq⟩])
      · exact Ev_eq (Ev_neg (fun e => hq (toList_inj.1 e)) (Ev_now fun _ => rfl)) (by rw [er, if_neg (fun e => hq e.2)])
  | succ d ih =>
    intro i m hi hm hd
    have hlt : i < s.size := by omega
    have hl : i < s.data.toList.length := by simpa using hlt
    have hm10 : m < 10 ^ 9 := Nat.lt_of_lt_of_le hm (Nat.pow_le_pow_right (by omega) (by omega))
    have hbt := bt_at' s i hlt
    have hb := (s.data.toList[i]).toNat_lt
    have key : Lib.digitVal s.data.toList[i] = none → decR s = (0, false) := fun hn => by
      rcases decR_cases s with ⟨n, _, e, _⟩ | ⟨e, _⟩
      · exfalso
        have h2 : Lib.decFrom 0 s.data.toList = some n := by rw [e]; exact decFrom_digits n
        rw [← List.take_append_drop i s.data.toList, decFrom_append, hd, Option.bind_some, List.drop_eq_getElem_cons hl] at h2
        unfold Lib.decFrom at h2
        rw [hn] at h2
        cases h2
      · exact e
    refine Ev.step (fun k => by rw [spec_ReadDecimal.l0]) (Ev_pos (by omega) (Ev_pos (by omega) ?_))
    rw [hbt]
    by_cases h1 : ((s.data.toList[i]).toNat : Int) < 48
    · exact Ev_eq (Ev_pos h1 (Ev_now fun _ => rfl)) (key (by unfold Lib.digitVal; rw [if_neg (by omega)])).symm
    · refine Ev_neg h1 ?_
      by_cases h2 : ((s.data.toList[i]).toNat : Int) > 57
      · exact Ev_eq (Ev_pos h2 (Ev_now fun _ => rfl)) (key (by unfold Lib.digitVal; rw [if_neg (by omega)])).symm
      · refine Ev_neg h2 ?_
        have e1 : wrap64 (10 * (m : Int)) = 10 * (m : Int) := wrap_id (by omega) (by omega)
        have e2 : wrap64 ((s.data.toList[i]).toNat : Int) = ((s.data.toList[i]).toNat : Int) := wrap_id (by omega) (by omega)
        rw [e1, e2, wrap_id (n := 10 * (m : Int) + ((s.data.toList[i]).toNat : Int)) (by omega) (by omega), wrap_id (n := 10 * (m : Int) + ((s.data.toList[i]).toNat : Int) - 48) (by omega) (by omega), wrap_id (n := (i : Int) + 1) (by omega) (by omega)]
        have e3 : 10 * (m : Int) + ((s.data.toList[i]).toNat : Int) - 48 = ((m * 10 + ((s.data.toList[i]).toNat - 48) : Nat) : Int) := by omega
        rw [e3]
        refine ih (i + 1) _ (by omega) (by rw [Nat.pow_succ]; omega) ?_
        rw [List.take_succ_eq_append_getElem hl, decFrom_append, hd, Option.bind_some]
        unfold Lib.decFrom Lib.digitVal
        rw [if_pos (by omega)]
        rfl
theorem spec_rd (s : ByteArray) : Ev (fun k => spec_ReadDecimal.f k s) (decR s) := by
  unfold spec_ReadDecimal.f
  by_cases h : (s.size : Int) > 10
  · refine Ev_eq (Ev_pos h (Ev_now fun _ => rfl)) ?_
    unfold decR
    rw [if_neg (by omega)]
  · exact Ev_neg h (spec_rd_loop s (by omega) s.size 0 0 (by omega) (by simp) rfl)

/-! ### a line cut at its spaces -/
def spL : List UInt8 → List (List UInt8)
  | [] => [[]]
  | b :: t => if b = 32 then [] :: spL t else (match spL t with
    | h :: r => (b :: h) :: r
    | [] => [[b]])
def joinW : List (List UInt8) → List UInt8
  | [] => []
  | [x] => x
  | x :: y :: r => x ++ 32 :: joinW (y :: r)
theorem spL_ne (l : List UInt8) : spL l ≠ [] := by
  cases l with
  | nil => simp [spL]
  | cons b t =>
    unfold spL
    split
    · simp
    · split <;> simp
theorem spL_word (x : List UInt8) (h : (32 : UInt8) ∉ x) (l : List UInt8) : spL (x ++ 32 :: l) = x :: spL l := by
  induction x with
  | nil => simp [spL]
  | cons b t ih =>
    have hb : b ≠ 32 := fun e => h (by rw [e]; exact List.mem_cons_self)
    have ht : (32 : UInt8) ∉ t := fun e => h (List.mem_cons_of_mem _ e)
    rw [List.cons_append, spL, if_neg hb, ih ht]
theorem spL_last (x : List UInt8) (h : (32 : UInt8) ∉ x) : spL x = [x] := by
  induction x with
  | nil => rfl
  | cons b t ih =>
    have hb : b ≠ 32 := fun e => h (by rw [e]; exact List.mem_cons_self)
    have ht : (32 : UInt8) ∉ t := fun e => h (List.mem_cons_of_mem _ e)
    unfold spL
    rw [if_neg hb, ih ht]
theorem spL_join (p : List (List UInt8)) (hn : p ≠ []) (h : ∀ x ∈ p, (32 : UInt8) ∉ x) : spL (joinW p) = p := by
  induction p with
  | nil => exact absurd rfl hn
  | cons x t ih =>
    cases t with
    | nil => exact spL_last x (h x List.mem_cons_self)
    | cons y r =>
      show spL (x ++ 32 :: joinW (y :: r)) = _
      rw [spL_word x (h x List.mem_cons_self), ih (by simp) (fun z hz => h z (List.mem_cons_of_mem _ hz))]
theorem joinW_cons (b : UInt8) (h : List UInt8) (r : List (List UInt8)) : joinW ((b :: h) :: r) = b :: joinW (h :: r) := by
  cases r <;> rfl
theorem spL_spec (l : List UInt8) : joinW (spL l) = l ∧ ∀ x ∈ spL l, (32 : UInt8) ∉ x := by
  induction l with
  | nil => exact ⟨rfl, by simp [spL]⟩
  | cons b t ih =>
    unfold spL
    by_cases hb : b = 32
    · rw [if_pos hb]
      subst hb
      cases hs : spL t with
      | nil => exact absurd hs (spL_ne t)
      | cons y r =>
        rw [hs] at ih
        refine ⟨?_, fun x hx => ?_⟩
        · show [] ++ 32 :: joinW (y :: r) = _
          rw [ih.1]; rfl
        · rcases List.mem_cons.1 hx with rfl | hx
          · simp
          · exact ih.2 x hx
    · rw [if_neg hb]
      cases hs : spL t with
      | nil => exact absurd hs (spL_ne t)
      | cons y r =>
        rw [hs] at ih
        refine ⟨?_, fun x hx => ?_⟩
        · show joinW ((b :: y) :: r) = _
          rw [joinW_cons, ih.1]
        · rcases List.mem_cons.1 hx with rfl | hx
          · intro hm
            rcases List.mem_cons.1 hm with e | hm
            · exact hb e.symm
            · exact ih.2 y List.mem_cons_self hm
          · exact ih.2 x (List.mem_cons_of_mem _ hx)
theorem split_iff (l : List UInt8) (p : List (List UInt8)) : spL l = p ↔ p ≠ [] ∧ (∀ x ∈ p, (32 : UInt8) ∉ x) ∧ joinW p = l := by
  constructor
  · rintro rfl
    exact ⟨spL_ne l, (spL_spec l).2, (spL_spec l).1⟩
  · rintro ⟨h1, h2, rfl⟩
    exact spL_join p h1 h2
theorem index_find (l : List UInt8) : (Lib.index l [32] = -1 ∧ (32 : UInt8) ∉ l) ∨ ∃ i : Nat, Lib.index l [32] = i ∧ (32 : UInt8) ∉ l.take i ∧ l = l.take i ++ 32 :: l.drop (i + 1) := by
  induction l with
  | nil => exact .inl ⟨rfl, by simp⟩
  | cons b t ih =>
    unfold Lib.index
    by_cases hb : b = 32
    · subst hb
      refine .inr ⟨0, by simp [List.isPrefixOf], by simp, by simp⟩
    · have hp : ([32] : List UInt8).isPrefixOf (b :: t) = false := by
        simp [List.isPrefixOf]
        exact fun e => hb e.symm
      rw [hp]
      rcases ih with ⟨h1, h2⟩ | ⟨i, h1, h2, h3⟩
      · refine .inl ⟨by rw [h1]; rfl, ?_⟩
        simp [h2]
        exact fun e => hb e.symm
      · refine .inr ⟨i + 1, ?_, ?_, ?_⟩
        · rw [h1]
          have : ((i : Int) == -1) = false := beq_eq_false_iff_ne.mpr (by omega)
          rw [this]; rfl
        · rw [List.take_succ_cons]
          simp [h2]
          exact fun e => hb e.symm
        · rw [List.take_succ_cons, List.drop_succ_cons, List.cons_append, ← h3]
theorem splitK_eq (n : Nat) : ∀ l : List UInt8, l.length ≤ n → Lib.splitK [32] 0 (Lib.count l [32]) l = spL l := by
  induction n with
  | zero =>
    intro l hl
    have : l = [] := List.eq_nil_of_length_eq_zero (by omega)
    subst this
    rw [Lib.count_miss (show Lib.index [] [32] = -1 from rfl)]
    rfl
  | succ n ih =>
    intro l hl
    rcases index_find l with ⟨h1, h2⟩ | ⟨i, h1, h2, h3⟩
    · rw [Lib.count_miss h1, spL_last l h2]
      rfl
    · have hlen : (l.drop (i + 1)).length ≤ n := by
        have h4 : i < l.length := by
          rcases Nat.lt_or_ge i l.length with h | h
          · exact h
          · exfalso
            rw [List.take_of_length_le h] at h3
            have := congrArg List.length h3
            simp at this
        rw [List.length_drop]; omega
      rw [Lib.count_hit (by simp) h1, Nat.add_comm, Lib.splitK, h1]
      have hm : ((i : Int) == -1) = false := beq_eq_false_iff_ne.mpr (by omega)
      rw [hm]
      show l.take i :: Lib.splitK [32] 0 (Lib.count (l.drop (i + 1)) [32]) (l.drop (i + 1)) = _
      rw [ih _ hlen]
      conv => rhs; rw [h3]
      rw [spL_word _ h2]

/-! ### strings.Split and the reference's join -/
theorem data_inj {a b : ByteArray} (h : a.data.toList = b.data.toList) : a = b := by
  cases a; cases b
  congr 1
  exact Array.toList_inj.1 h
theorem map_data_inj : ∀ {a b : List ByteArray}, a.map (·.data.toList) = b.map (·.data.toList) → a = b
  | [], [], _ => rfl
  | [], _ :: _, h => by simp at h
  | _ :: _, [], h => by simp at h
  | x :: a, y :: b, h => by
    rw [List.map_cons, List.map_cons] at h
    injection h with h1 h2
    rw [data_inj h1, map_data_inj h2]
theorem impl_split (s : ByteArray) (hs : s.size ≤ 100000000) : ∃ L, strings_Split.f s (⟨#[32]⟩ : ByteArray) = some L ∧ L.map (·.data.toList) = spL s.data.toList := by
  unfold strings_Split.f
  refine ⟨_, if_pos ⟨by omega, by decide⟩, ?_⟩
  rw [Lib.splitB_data]
  have : Lib.countB s (⟨#[32]⟩ : ByteArray) = Lib.count s.data.toList [32] := rfl
  rw [this]
  exact splitK_eq _ s.data.toList (Nat.le_refl _)
/-- Is the line the join of the words, none of which bears a space? -/
def fitB (s : ByteArray) (p : List ByteArray) : Bool := decide (spL s.data.toList = p.map (·.data.toList))
theorem impl_fit (s : ByteArray) (hs : s.size ≤ 100000000) (p : List ByteArray) : ∃ L, strings_Split.f s (⟨#[32]⟩ : ByteArray) = some L ∧ slices_Equal_string_string.f L p = some (fitB s p) := by
  obtain ⟨L, h1, h2⟩ := impl_split s hs
  refine ⟨L, h1, ?_⟩
  unfold slices_Equal_string_string.f fitB
  rw [← h2]
  congr 1
  by_cases e : L = p
  · rw [decide_eq_true e, decide_eq_true (by rw [e])]
  · rw [decide_eq_false e, decide_eq_false (fun h => e (map_data_inj h))]

/-! ### the reference's join -/
theorem joinW_flat (x : List UInt8) (l : List (List UInt8)) : joinW (x :: l) = x ++ (l.map (32 :: ·)).flatten := by
  induction l generalizing x with
  | nil => simp [joinW]
  | cons y r ih =>
    show x ++ 32 :: joinW (y :: r) = _
    rw [ih, List.map_cons, List.flatten_cons]; simp
def tailJ (l : List ByteArray) : ByteArray := Sb ((l.map fun x => 32 :: x.data.toList).flatten)
theorem tailJ_cons (x : ByteArray) (l : List ByteArray) : tailJ (x :: l) = (⟨#[32]⟩ : ByteArray) ++ x ++ tailJ l := by
  unfold tailJ
  rw [List.map_cons, List.flatten_cons, ← Sb_append]
  congr 1
def joinB (p : List ByteArray) : ByteArray := Sb (joinW (p.map (·.data.toList)))
theorem joinB_cons (x : ByteArray) (l : List ByteArray) : joinB (x :: l) = x ++ tailJ l := by
  unfold joinB tailJ
  rw [List.map_cons, joinW_flat, ← Sb_append, ← Sb_of x, List.map_map]; rfl
theorem spec_join_loop (p : List ByteArray) (hp : p.length + sumS p ≤ 1048576) (d : Nat) : ∀ (i : Nat) (acc : ByteArray), 1 ≤ i → i + d = p.length → acc.size + (p.length - i) + sumS (p.drop i) ≤ 1048576 →
    Ev (fun k => spec_l31Join.l0 k p acc (i : Int)) (acc ++ tailJ (p.drop i)) := by
  induction d with
  | zero =>
    intro i acc h1 hi hs
    refine Ev_eq (Ev.step (fun k => by rw [spec_l31Join.l0]) (Ev_neg (by omega) (Ev_now fun _ => rfl))) ?_
    rw [List.drop_eq_nil_of_le (by omega)]
    show acc = acc ++ Sb []
    rw [Sb_of acc, Sb_append, List.append_nil]
  | succ d ih =>
    intro i acc h1 hi hs
    have hlt : i < p.length := by omega
    have e0 := rdOf_get p i hlt
    have s1 : (⟨#[32]⟩ : ByteArray).size = 1 := rfl
    rw [List.drop_eq_getElem_cons hlt, sumS_cons] at hs
    refine Ev.step (fun k => by rw [spec_l31Join.l0]) (Ev_pos (by omega) (Ev_pos (by omega) (Ev_pos (by omega) (Ev_pos (by omega) ?_))))
    rw [e0, wrap_id (n := (i : Int) + 1) (by omega) (by omega)]
    refine Ev_pos (by rw [ByteArray.size_append, s1]; omega) (Ev_eq (ih (i + 1) _ (by omega) (by omega) (by rw [ByteArray.size_append, ByteArray.size_append, s1]; omega)) ?_)
    rw [List.drop_eq_getElem_cons hlt, tailJ_cons]
    rw [Sb_of acc, Sb_of p[i], Sb_of (tailJ (p.drop (i + 1))), show (⟨#[32]⟩ : ByteArray) = Sb [32] from rfl]
    simp only [Sb_append, List.append_assoc]
theorem spec_join (p : List ByteArray) (hp : p.length + sumS p ≤ 1048576) (hn : p ≠ []) : Ev (fun k => spec_l31Join.f k p) (joinB p) := by
  cases p with
  | nil => exact absurd rfl hn
  | cons x l =>
    unfold spec_l31Join.f
    rw [sumS_cons, List.length_cons] at hp
    have e0 : rdOf ByteArray.empty (x :: l) 0 = x := rfl
    have hx : ((⟨#[]⟩ : ByteArray) ++ x) = x := by
      rw [show (⟨#[]⟩ : ByteArray) = Sb [] from rfl, Sb_of x, Sb_append, List.nil_append]
    refine Ev.step (fun k => by rw [spec_l31Join.l0]) (Ev_pos (by rw [List.length_cons]; omega) (Ev_neg (by omega) (Ev_pos (by omega) ?_)))
    rw [e0, hx, wrap_id (n := (0 : Int) + 1) (by omega) (by omega)]
    refine Ev_pos (by rw [show (⟨#[]⟩ : ByteArray).size = 0 from rfl]; omega) ?_
    have := spec_join_loop (x :: l) (by rw [sumS_cons, List.length_cons]; omega) l.length 1 x (by omega) (by rw [List.length_cons]; omega) (by rw [List.length_cons]; show x.size + (l.length + 1 - 1) + sumS l ≤ _; omega)
    rw [joinB_cons]
    exact this

/-! ### words without a space -/
def hasSp (l : List UInt8) : Bool := l.any fun b => decide (b = 32)
def anySp (p : List ByteArray) : Bool := p.any fun x => hasSp x.data.toList
theorem hasSp_iff (l : List UInt8) : hasSp l = true ↔ (32 : UInt8) ∈ l := by
  unfold hasSp
  simp
theorem fit_eq (s : ByteArray) (p : List ByteArray) (hn : p ≠ []) : fitB s p = (!anySp p && decide (s = joinB p)) := by
  unfold fitB
  rw [Bool.eq_iff_iff, decide_eq_true_iff, split_iff, Bool.and_eq_true, Bool.not_eq_true', decide_eq_true_iff]
  have e1 : anySp p = false ↔ ∀ x ∈ p.map (·.data.toList), (32 : UInt8) ∉ x := by
    unfold anySp
    rw [List.any_eq_false]
    constructor
    · intro h x hx
      obtain ⟨y, hy, rfl⟩ := List.mem_map.1 hx
      exact fun hm => h y hy ((hasSp_iff _).2 hm)
    · intro h x hx hc
      exact h _ (List.mem_map.2 ⟨x, hx, rfl⟩) ((hasSp_iff _).1 hc)
  have e2 : s = joinB p ↔ joinW (p.map (·.data.toList)) = s.data.toList := by
    unfold joinB
    constructor
    · intro h; rw [h]; rfl
    · intro h; rw [h]; exact Sb_of s
  rw [e1, e2]
  simp [hn]

/-! ### the fields of a line -/
def okB (b : UInt8) : Bool := decide (32 ≤ b.toNat ∧ b.toNat ≤ 126)
def fitP (l : List ByteArray) : List ByteArray × Bool := if l.length ≤ 12 then (l, true) else ([], false)
def partsR (s : ByteArray) : List ByteArray × Bool := if s.size ≤ 600 ∧ s.data.toList.all okB = true then fitP ((Lib.fields s.data.toList).map Sb) else ([], false)
theorem ext_list (s : ByteArray) (a b : Nat) : s.extract a b = Sb ((s.data.toList.drop a).take (b - a)) := by
  rw [Sb_of (s.extract a b), Lib.extract_data]
theorem all_drop (l : List UInt8) (p : UInt8 → Bool) (i : Nat) (h : i < l.length) : (l.drop i).all p = (p l[i] && (l.drop (i + 1)).all p) := by
  rw [List.drop_eq_getElem_cons h, List.all_cons]
theorem impl_parts_loop (s : ByteArray) (hs : s.size ≤ 600) (d : Nat) : ∀ i : Nat, i + d = s.size → (s.data.toList.take i).all okB = true →
    Ev (fun k => impl_PartsOf.l0 k s (s.size : Int) (i : Int)) (if (s.data.toList.drop i).all okB = true then fitP ((Lib.fields s.data.toList).map Sb) else ([], false)) := by
  have hl : s.data.toList.length = s.size := by simp
  induction d with
  | zero =>
    intro i hi hp
    rw [List.take_of_length_le (by omega)] at hp
    rw [List.drop_eq_nil_of_le (by omega)]
    refine Ev.step (fun k => by rw [impl_PartsOf.l0]) (Ev_neg (by omega) ?_)
    have hf : strings_Fields.f s = some ((Lib.fields s.data.toList).map Sb) := by
      unfold strings_Fields.f
      rw [if_pos ⟨by omega, List.all_eq_true.2 fun b hb => by
        have := List.all_eq_true.1 hp b hb
        unfold okB at this
        simp at this ⊢
        omega⟩]
      rfl
    refine Ev_const hf ?_
    unfold fitP
    simp only [List.all_nil, if_true]
    by_cases h12 : ((Lib.fields s.data.toList).map Sb).length ≤ 12
    · exact Ev_eq (Ev_neg (by omega) (Ev_now fun _ => rfl)) (by rw [if_pos h12])
    · exact Ev_eq (Ev_pos (by omega) (Ev_now fun _ => rfl)) (by rw [if_neg h12])
  | succ d ih =>
    intro i hi hp
    have hlt : i < s.size := by omega
    have hb := bt_at' s i hlt
    have hget : i < s.data.toList.length := by omega
    have hta := take_all s.data.toList okB i hget hp
    rw [all_drop _ _ _ hget]
    generalize s.data.toList[i] = v at hb hta
    refine Ev.step (fun k => by rw [impl_PartsOf.l0]) (Ev_pos (by omega) (Ev_pos (by omega) (Ev_pos (by omega) ?_)))
    rw [hb]
    by_cases h1 : (v.toNat : Int) < 32
    · refine Ev_eq (Ev_pos h1 (Ev_now fun _ => rfl)) ?_
      have : okB v = false := by unfold okB; simp; omega
      rw [this]; rfl
    refine Ev_neg h1 ?_
    by_cases h2 : (v.toNat : Int) > 126
    · refine Ev_eq (Ev_pos h2 (Ev_now fun _ => rfl)) ?_
      have : okB v = false := by unfold okB; simp; omega
      rw [this]; rfl
    refine Ev_neg h2 ?_
    have ho : okB v = true := by unfold okB; simp; omega
    rw [ho, Bool.true_and, wrap_id (n := (i : Int) + 1) (by omega) (by omega)]
    exact ih (i + 1) (by omega) (hta ho)
theorem impl_parts (s : ByteArray) : Ev (fun k => impl_PartsOf.f k s) (partsR s) := by
  unfold impl_PartsOf.f partsR
  by_cases h : s.size ≤ 600
  · refine Ev_neg (by omega) (Ev_eq (impl_parts_loop s h s.size 0 (by omega) rfl) ?_)
    rw [List.drop_zero]
    simp [h]
  · exact Ev_eq (Ev_pos (by omega) (Ev_now fun _ => rfl)) (by rw [if_neg (fun e => h e.1)])
theorem isSp_of (v : UInt8) (h : okB v = true) : Lib.isSp v = decide (v = 32) := by
  unfold okB at h
  simp at h
  unfold Lib.isSp
  have e : ∀ n : UInt8, (v == n) = decide (v = n) := fun n => rfl
  by_cases hv : v = 32
  · subst hv; rfl
  · have hn : ∀ n : UInt8, n.toNat ≤ 13 → (v == n) = false := fun n hn => beq_eq_false_iff_ne.mpr (fun e => by rw [e] at h; omega)
    rw [hn 9 (by decide), hn 10 (by decide), hn 11 (by decide), hn 12 (by decide), hn 13 (by decide), e 32]
    simp
theorem spec_parts_loop (s : ByteArray) (hs : s.size ≤ 600) (d : Nat) : ∀ (i b : Nat) (out : List ByteArray), i + d = s.size → b ≤ i → out.length ≤ i →
    Ev (fun k => spec_PartsOf.l0 k s out (b : Int) (i : Int)) (if (s.data.toList.drop i).all okB = true then fitP (out ++ (Lib.fieldsGo ((s.data.toList.drop b).take (i - b)) (s.data.toList.drop i)).map Sb) else ([], false)) := by
  have hl : s.data.toList.length = s.size := by simp
  induction d with
  | zero =>
    intro i b out hi hb ho
    have last : ∀ (o : List ByteArray) (b' : Int), Ev (fun k => spec_PartsOf.l0 k s o b' (wrap64 ((i : Int) + 1))) (fitP o) := fun o b' => by
      rw [wrap_id (n := (i : Int) + 1) (by omega) (by omega)]
      refine Ev.step (fun k => by rw [spec_PartsOf.l0]) (Ev_neg (by omega) ?_)
      unfold fitP
      by_cases h12 : o.length ≤ 12
      · exact Ev_eq (Ev_neg (by omega) (Ev_now fun _ => rfl)) (by rw [if_pos h12])
      · exact Ev_eq (Ev_pos (by omega) (Ev_now fun _ => rfl)) (by rw [if_neg h12])
    refine Ev.step (fun k => by rw [spec_PartsOf.l0]) (Ev_pos (by omega) (Ev_neg (by omega) ?_))
    refine Ev.step (fun k => by rw [spec_PartsOf.j1]) (Ev_neg (by simp) (Ev_neg (by omega) ?_))
    refine Ev.step (fun k => by rw [spec_PartsOf.j2]) (Ev_neg (by simp) ?_)
    rw [List.drop_eq_nil_of_le (show s.data.toList.length ≤ i by omega)]
    simp only [List.all_nil, if_true]
    by_cases hlt : b < i
    · refine Ev_pos (by omega) (Ev_pos (by omega) (Ev_pos (by omega) (Ev_pos (by omega) (Ev_pos (by omega) (Ev_eq (last _ _) ?_)))))
      have hne : ((s.data.toList.drop b).take (i - b)).isEmpty = false := by
        rw [List.isEmpty_eq_false_iff]
        intro e
        have := congrArg List.length e
        simp at this
        omega
      rw [Lib.fieldsGo, hne, show ((b : Int)).toNat = b from rfl, show ((i : Int)).toNat = i from rfl, ext_list]
      rfl
    · refine Ev_neg (by omega) (Ev_eq (last _ _) ?_)
      have he : (s.data.toList.drop b).take (i - b) = [] := by rw [show i - b = 0 by omega, List.take_zero]
      rw [he, Lib.fieldsGo]
      simp
  | succ d ih =>
    intro i b out hi hb ho
    have hlt : i < s.size := by omega
    have hbt := bt_at' s i hlt
    have hget : i < s.data.toList.length := by omega
    rw [all_drop _ _ _ hget, List.drop_eq_getElem_cons hget]
    have hcur : (s.data.toList.drop b).take (i + 1 - b) = (s.data.toList.drop b).take (i - b) ++ [s.data.toList[i]] := by
      rw [show i + 1 - b = (i - b) + 1 by omega, List.take_succ_eq_append_getElem (by rw [List.length_drop]; omega), List.getElem_drop]
      congr 3
      omega
    have I1 := fun b' out' h1 h2 => ih (i + 1) b' out' (by omega) h1 h2
    generalize s.data.toList[i] = v at hbt hcur
    have hv := v.toNat_lt
    refine Ev.step (fun k => by rw [spec_PartsOf.l0]) (Ev_pos (by omega) (Ev_pos (by omega) (Ev_pos (by omega) ?_)))
    rw [hbt]
    have bad : okB v = false → Ev (fun k => spec_PartsOf.j1 k s out (b : Int) (i : Int) true) (if (okB v && (s.data.toList.drop (i + 1)).all okB) = true then fitP (out ++ (Lib.fieldsGo ((s.data.toList.drop b).take (i - b)) (v :: s.data.toList.drop (i + 1))).map Sb) else ([], false)) := fun h => by
      refine Ev.step (fun k => by rw [spec_PartsOf.j1]) (Ev_eq (Ev_pos rfl (Ev_now fun _ => rfl)) ?_)
      rw [h]; rfl
    by_cases h1 : (v.toNat : Int) < 32
    · exact Ev_pos h1 (bad (by unfold okB; simp; omega))
    refine Ev_neg h1 ?_
    by_cases h2 : (v.toNat : Int) > 126
    · rw [decide_eq_true h2]
      exact bad (by unfold okB; simp; omega)
    rw [decide_eq_false h2]
    have hok : okB v = true := by unfold okB; simp; omega
    rw [hok, Bool.true_and]
    refine Ev.step (fun k => by rw [spec_PartsOf.j1]) (Ev_neg (by simp) (Ev_pos (by omega) (Ev_pos (by omega) ?_)))
    rw [hbt]
    by_cases h32 : v = 32
    · have hsp : Lib.isSp v = true := by rw [isSp_of v hok, decide_eq_true h32]
      have e32 : (((v.toNat : Int)) != 32) = false := by rw [h32]; rfl
      rw [e32]
      refine Ev.step (fun k => by rw [spec_PartsOf.j2]) (Ev_neg (by simp) ?_)
      rw [wrap_id (n := (i : Int) + 1) (by omega) (by omega), Lib.fieldsGo, hsp]
      simp only [if_true]
      have hz : (s.data.toList.drop (i + 1)).take (i + 1 - (i + 1)) = [] := by rw [Nat.sub_self, List.take_zero]
      by_cases hbi : b < i
      · refine Ev_pos (by omega) (Ev_pos (by omega) (Ev_pos (by omega) (Ev_pos (by omega) (Ev_pos (by omega) ?_))))
        refine Ev_eq (I1 (i + 1) _ (Nat.le_refl _) (by rw [List.length_append]; simp; omega)) ?_
        have hne : ((s.data.toList.drop b).take (i - b)).isEmpty = false := by
          rw [List.isEmpty_eq_false_iff]
          intro e
          have := congrArg List.length e
          simp at this
          omega
        rw [hz, hne, show ((b : Int)).toNat = b from rfl, show ((i : Int)).toNat = i from rfl, ext_list]
        simp
      · refine Ev_neg (by omega) (Ev_eq (I1 (i + 1) _ (Nat.le_refl _) (by omega)) ?_)
        have he : (s.data.toList.drop b).take (i - b) = [] := by rw [show i - b = 0 by omega, List.take_zero]
        rw [hz, he]
        simp
    · have hsp : Lib.isSp v = false := by rw [isSp_of v hok, decide_eq_false h32]
      have e32 : (((v.toNat : Int)) != 32) = true := by
        rw [bne_iff_ne]
        exact fun e => h32 (UInt8.toNat.inj (by show _ = 32; omega))
      rw [e32, Lib.fieldsGo, hsp]
      refine Ev.step (fun k => by rw [spec_PartsOf.j2]) (Ev_pos rfl ?_)
      rw [wrap_id (n := (i : Int) + 1) (by omega) (by omega)]
      refine Ev_eq (I1 b out (by omega) (by omega)) ?_
      rw [hcur]
      rfl
theorem spec_parts (s : ByteArray) : Ev (fun k => spec_PartsOf.f k s) (partsR s) := by
  unfold spec_PartsOf.f partsR
  refine Ev_const rfl ?_
  by_cases h : s.size ≤ 600
  · refine Ev_neg (by omega) (Ev_eq (spec_parts_loop s h s.size 0 0 [] (by omega) (by omega) (by simp)) ?_)
    rw [List.drop_zero, List.nil_append, Nat.sub_zero, List.take_zero]
    simp [h, Lib.fields]
  · exact Ev_eq (Ev_pos (by omega) (Ev_now fun _ => rfl)) (by rw [if_neg (fun e => h e.1)])
/-! what the fields are -/
theorem go_nosp : ∀ (l cur : List UInt8), (32 : UInt8) ∉ cur → ∀ x ∈ Lib.fieldsGo cur l, (32 : UInt8) ∉ x
  | [], cur, hc, x, hx => by
    unfold Lib.fieldsGo at hx
    split at hx
    · cases hx
    · rw [List.mem_singleton.1 hx]; exact hc
  | b :: l, cur, hc, x, hx => by
    unfold Lib.fieldsGo at hx
    cases hb : Lib.isSp b with
    | true =>
      rw [hb] at hx
      simp only [if_true] at hx
      split at hx
      · exact go_nosp l [] (by simp) x hx
      · rcases List.mem_cons.1 hx with rfl | hx
        · exact hc
        · exact go_nosp l [] (by simp) x hx
    | false =>
      rw [hb] at hx
      have h32 : b ≠ 32 := fun e => by rw [e] at hb; cases hb
      refine go_nosp l (cur ++ [b]) ?_ x hx
      intro hm
      rcases List.mem_append.1 hm with hm | hm
      · exact hc hm
      · exact h32 (List.mem_singleton.1 hm).symm
theorem go_sum : ∀ (l cur : List UInt8), (Lib.fieldsGo cur l).length + ((Lib.fieldsGo cur l).map (·.length)).sum ≤ 1 + cur.length + 2 * l.length
  | [], cur => by
    unfold Lib.fieldsGo
    split <;> simp
  | b :: l, cur => by
    unfold Lib.fieldsGo
    have h1 := go_sum l []
    have h2 := go_sum l (cur ++ [b])
    simp at h1 h2 ⊢
    split
    · split
      · omega
      · simp; omega
    · omega
theorem parts_facts (s : ByteArray) : (partsR s).1.length + sumS (partsR s).1 ≤ 1048576 ∧ anySp (partsR s).1 = false := by
  unfold partsR
  by_cases h : s.size ≤ 600 ∧ s.data.toList.all okB = true
  · rw [if_pos h]
    unfold fitP
    by_cases h12 : ((Lib.fields s.data.toList).map Sb).length ≤ 12
    · rw [if_pos h12]
      have h1 := go_sum s.data.toList []
      have hl : s.data.toList.length = s.size := by simp
      have hm : ((Lib.fields s.data.toList).map Sb).map (·.size) = (Lib.fields s.data.toList).map (·.length) := by
        rw [List.map_map]
        apply List.map_congr_left
        intro x _
        exact Sb_size x
      constructor
      · unfold sumS
        rw [hm, List.length_map]
        show (Lib.fieldsGo [] s.data.toList).length + _ ≤ _
        simp only [List.length_nil] at h1
        have : ((Lib.fields s.data.toList).map (·.length)).sum = ((Lib.fieldsGo [] s.data.toList).map (·.length)).sum := rfl
        omega
      · unfold anySp
        rw [List.any_eq_false]
        intro x hx hc
        obtain ⟨y, hy, rfl⟩ := List.mem_map.1 hx
        exact go_nosp s.data.toList [] (by simp) y hy ((hasSp_iff _).1 hc)
    · rw [if_neg h12]; exact ⟨by decide, rfl⟩
  · rw [if_neg h]; exact ⟨by decide, rfl⟩

/-! ### the line of sizes -/
def decB (n : Int) : ByteArray := Sb (Lib.itoa n)
def Sp : ByteArray := ⟨#[32]⟩
def okG (t p i q : Int) : Bool := decide ((1 ≤ t ∧ t ≤ 3) ∧ (5 ≤ p ∧ p ≤ 12) ∧ (2 ≤ i ∧ i ≤ 6) ∧ 1 ≤ q ∧ q ≤ wrap64 (p - 4))
def geoL (t p i q : Int) : ByteArray := if okG t p i q = true then (⟨#[103, 101, 111, 32]⟩ : ByteArray) ++ decB t ++ Sp ++ decB p ++ Sp ++ decB i ++ Sp ++ decB q else Sb []
theorem impl_in (a b c : Int) : impl_within.f a b c = some (decide (b ≤ a ∧ a ≤ c)) := by
  unfold impl_within.f
  by_cases h : a ≥ b
  · rw [if_pos h]; congr 1; simp [h]
  · rw [if_neg h]; congr 1; simp; omega
theorem spec_geook (t p i q : Int) : spec_GeoOk.f t p i q = some (okG t p i q) := by
  unfold spec_GeoOk.f okG
  rw [spec_in, Option.bind_some]
  by_cases h1 : 1 ≤ t ∧ t ≤ 3
  · rw [if_pos (by simp [h1]), spec_in, Option.bind_some]
    by_cases h2 : 5 ≤ p ∧ p ≤ 12
    · rw [if_pos (by simp [h2]), spec_in, Option.bind_some]
      by_cases h3 : 2 ≤ i ∧ i ≤ 6
      · rw [if_pos (by simp [h3]), spec_in, Option.bind_some]
        congr 1
        rw [decide_eq_decide]
        exact ⟨fun h => ⟨h1, h2, h3, h⟩, fun h => h.2.2.2⟩
      · rw [if_neg (by simp; omega), decide_eq_false (fun h => h3 h.2.2.1)]
    · rw [if_neg (by simp; omega), decide_eq_false (fun h => h2 h.2.1)]
  · rw [if_neg (by simp; omega), decide_eq_false (fun h => h1 h.1)]
theorem impl_geook (t p i q : Int) : impl_GeoOk.f t p i q = some (okG t p i q) := by
  unfold impl_GeoOk.f okG
  rw [impl_in, Option.bind_some]
  by_cases h1 : 1 ≤ t ∧ t ≤ 3
  · rw [if_pos (by simp [h1]), impl_in, Option.bind_some]
    by_cases h2 : 5 ≤ p ∧ p ≤ 12
    · rw [if_pos (by simp [h2]), impl_in, Option.bind_some]
      by_cases h3 : 2 ≤ i ∧ i ≤ 6
      · rw [if_pos (by simp [h3]), impl_in, Option.bind_some]
        congr 1
        rw [decide_eq_decide]
        exact ⟨fun h => ⟨h1, h2, h3, h⟩, fun h => h.2.2.2⟩
      · rw [if_neg (by simp; omega), decide_eq_false (fun h => h3 h.2.2.1)]
    · rw [if_neg (by simp; omega), decide_eq_false (fun h => h2 h.2.1)]
  · rw [if_neg (by simp; omega), decide_eq_false (fun h => h1 h.1)]
theorem impl_dec (n : Int) (h : -9223372036854775808 ≤ n ∧ n ≤ 9223372036854775807) : impl_Decimal.f n = some (decB n) := by
  unfold impl_Decimal.f strconv_Itoa.f
  rw [if_pos h]; rfl
section
variable (t p i q : Int) (ht : 0 ≤ t ∧ t ≤ 1000000000) (hp : 0 ≤ p ∧ p ≤ 1000000000) (hi : 0 ≤ i ∧ i ≤ 1000000000) (hq : 0 ≤ q ∧ q ≤ 1000000000)
include ht hp hi hq
theorem geo_sizes : (decB t).size ≤ 21 ∧ (decB p).size ≤ 21 ∧ (decB i).size ≤ 21 ∧ (decB q).size ≤ 21 :=
  ⟨dec_size t (by omega) (by omega), dec_size p (by omega) (by omega), dec_size i (by omega) (by omega), dec_size q (by omega) (by omega)⟩
theorem geo_size : (geoL t p i q).size ≤ 100000000 := by
  obtain ⟨s1, s2, s3, s4⟩ := geo_sizes t p i q ht hp hi hq
  have h4 : (⟨#[103, 101, 111, 32]⟩ : ByteArray).size = 4 := rfl
  have hs : Sp.size = 1 := rfl
  unfold geoL
  split
  · simp only [ByteArray.size_append]; omega
  · decide
theorem spec_geoline : Ev (fun k => spec_GeoLine.f k t p i q) (geoL t p i q) := by
  obtain ⟨s1, s2, s3, s4⟩ := geo_sizes t p i q ht hp hi hq
  have h4 : (⟨#[103, 101, 111, 32]⟩ : ByteArray).size = 4 := rfl
  have h1 : (⟨#[32]⟩ : ByteArray).size = 1 := rfl
  unfold spec_GeoLine.f geoL
  refine Ev_const (spec_geook t p i q) ?_
  cases okG t p i q with
  | false => exact Ev_neg (by simp) (Ev_now fun _ => rfl)
  | true =>
    refine Ev_pos rfl (Ev.bind (show Ev (fun k => spec_Decimal.f k t) (decB t) from spec_dec t (by omega) (by omega)) (Ev_pos (by omega) (Ev_pos (by simp only [ByteArray.size_append]; omega) ?_)))
    refine Ev.bind (show Ev (fun k => spec_Decimal.f k p) (decB p) from spec_dec p (by omega) (by omega)) (Ev_pos (by simp only [ByteArray.size_append]; omega) (Ev_pos (by simp only [ByteArray.size_append]; omega) ?_))
    refine Ev.bind (show Ev (fun k => spec_Decimal.f k i) (decB i) from spec_dec i (by omega) (by omega)) (Ev_pos (by simp only [ByteArray.size_append]; omega) (Ev_pos (by simp only [ByteArray.size_append]; omega) ?_))
    refine Ev.bind (show Ev (fun k => spec_Decimal.f k q) (decB q) from spec_dec q (by omega) (by omega)) (Ev_pos (by simp only [ByteArray.size_append]; omega) (Ev_now fun _ => rfl))
theorem impl_geoline : impl_GeoLine.f t p i q = some (geoL t p i q) := by
  obtain ⟨s1, s2, s3, s4⟩ := geo_sizes t p i q ht hp hi hq
  have h4 : (⟨#[103, 101, 111, 32]⟩ : ByteArray).size = 4 := rfl
  have h1 : (⟨#[32]⟩ : ByteArray).size = 1 := rfl
  unfold impl_GeoLine.f geoL
  rw [impl_geook t p i q, Option.bind_some]
  cases okG t p i q with
  | false => rfl
  | true =>
    rw [if_pos rfl, impl_dec t (by omega), Option.bind_some, if_pos (by omega), if_pos (by simp only [ByteArray.size_append]; omega)]
    rw [impl_dec p (by omega), Option.bind_some, if_pos (by simp only [ByteArray.size_append]; omega), if_pos (by simp only [ByteArray.size_append]; omega)]
    rw [impl_dec i (by omega), Option.bind_some, if_pos (by simp only [ByteArray.size_append]; omega), if_pos (by simp only [ByteArray.size_append]; omega)]
    rw [impl_dec q (by omega), Option.bind_some, if_pos (by simp only [ByteArray.size_append]; omega)]
    rfl
end
/-! ### sizes, read -/
def fitL (line : ByteArray) (p : List ByteArray) : Bool := !decide (line = Sb []) && decide (line = joinB p)
theorem impl_line (s : ByteArray) (hs : s.size ≤ 100000000) (p : List ByteArray) (hn : p ≠ []) (hp : anySp p = false) : impl_isLine.f s p = some (fitL s p) := by
  unfold impl_isLine.f fitL
  by_cases h : s = Sb []
  · rw [if_pos (toList_nil.2 h), decide_eq_true h]; rfl
  · rw [if_neg (fun e => h (toList_nil.1 e)), decide_eq_false h]
    obtain ⟨L, e1, e2⟩ := impl_fit s hs p
    rw [e1, Option.bind_some, e2, Option.bind_some, fit_eq s p hn, hp]
def geoR (p : List ByteArray) : Int × Int × Int × Int × Bool :=
  match p with
  | [_, s1, s2, s3, s4] => if fitL (geoL (decR s1).1 (decR s2).1 (decR s3).1 (decR s4).1) p = true then ((decR s1).1, (decR s2).1, (decR s3).1, (decR s4).1, true) else (0, 0, 0, 0, false)
  | _ => (0, 0, 0, 0, false)
theorem geoR_other (p : List ByteArray) (h : p.length ≠ 5) : geoR p = (0, 0, 0, 0, false) := by
  unfold geoR
  split
  · exact absurd rfl h
  · rfl
theorem geoR_five (s0 s1 s2 s3 s4 : ByteArray) : geoR [s0, s1, s2, s3, s4] = if fitL (geoL (decR s1).1 (decR s2).1 (decR s3).1 (decR s4).1) [s0, s1, s2, s3, s4] = true then ((decR s1).1, (decR s2).1, (decR s3).1, (decR s4).1, true) else (0, 0, 0, 0, false) := rfl
theorem five (p : List ByteArray) (h : p.length = 5) : ∃ s0 s1 s2 s3 s4, p = [s0, s1, s2, s3, s4] := by
  match p, h with
  | [s0, s1, s2, s3, s4], _ => exact ⟨s0, s1, s2, s3, s4, rfl⟩
theorem spec_num (p : List ByteArray) (hp : p.length ≤ 1000) (i : Nat) (h : i < p.length) : Ev (fun k => spec_l31Num.f k p (i : Int)) (decR p[i]).1 := by
  unfold spec_l31Num.f
  rw [rdOf_get p i h]
  exact Ev_neg (by omega) (Ev_pos (by omega) (Ev_pos (by omega) (Ev.bind (spec_rd _) (Ev_now fun _ => rfl))))
def readG (s : ByteArray) : Int × Int × Int × Int × Bool := if (partsR s).2 = true then geoR (partsR s).1 else (0, 0, 0, 0, false)
theorem spec_geo (s : ByteArray) : Ev (fun k => spec_ReadGeo.f k s) (readG s) := by
  obtain ⟨hb, hsp⟩ := parts_facts s
  unfold spec_ReadGeo.f readG
  refine Ev.bind (spec_parts s) ?_
  generalize (partsR s).1 = p at hb hsp
  cases (partsR s).2 with
  | false =>
    refine Ev_neg (by simp) (Ev.step (fun k => by rw [spec_ReadGeo.j0]) ?_)
    exact Ev_eq (Ev_pos rfl (Ev_now fun _ => rfl)) rfl
  | true =>
    refine Ev_pos rfl ?_
    rw [if_pos rfl]
    by_cases h5 : p.length = 5
    case neg =>
      have e : ((p.length : Int) != 5) = true := by rw [bne_iff_ne]; omega
      rw [e]
      exact Ev.step (fun k => by rw [spec_ReadGeo.j0]) (Ev_eq (Ev_pos rfl (Ev_now fun _ => rfl)) (geoR_other p h5).symm)
    have e : ((p.length : Int) != 5) = false := by rw [h5]; rfl
    rw [e]
    obtain ⟨s0, s1, s2, s3, s4, rfl⟩ := five p h5
    have j := spec_join _ hb (by simp)
    have d1 := decR_small s1
    have d2 := decR_small s2
    have d3 := decR_small s3
    have d4 := decR_small s4
    refine Ev.step (fun k => by rw [spec_ReadGeo.j0]) (Ev_neg (by simp) ?_)
    refine Ev.bind (spec_num [s0, s1, s2, s3, s4] (by simp) 1 (by simp)) (Ev.bind (spec_num [s0, s1, s2, s3, s4] (by simp) 2 (by simp)) (Ev.bind (spec_num [s0, s1, s2, s3, s4] (by simp) 3 (by simp)) (Ev.bind (spec_num [s0, s1, s2, s3, s4] (by simp) 4 (by simp)) ?_)))
    refine Ev.bind (spec_geoline _ _ _ _ d1 d2 d3 d4) ?_
    rw [geoR_five]
    unfold fitL
    by_cases h0 : geoL (decR s1).1 (decR s2).1 (decR s3).1 (decR s4).1 = Sb []
    · exact Ev_eq (Ev_pos (toList_nil.2 h0) (Ev_now fun _ => rfl)) (by rw [decide_eq_true h0]; rfl)
    · refine Ev_neg (fun e => h0 (toList_nil.1 e)) (Ev.bind j ?_)
      rw [decide_eq_false h0]
      by_cases hj : geoL (decR s1).1 (decR s2).1 (decR s3).1 (decR s4).1 = joinB [s0, s1, s2, s3, s4]
      · exact Ev_eq (Ev_pos (toList_inj.2 hj) (Ev_now fun _ => rfl)) (by rw [decide_eq_true hj]; rfl)
      · exact Ev_eq (Ev_neg (fun e => hj (toList_inj.1 e)) (Ev_now fun _ => rfl)) (by rw [decide_eq_false hj]; rfl)
theorem impl_geo (s : ByteArray) : Ev (fun k => impl_ReadGeo.f k s) (readG s) := by
  obtain ⟨hb, hsp⟩ := parts_facts s
  unfold impl_ReadGeo.f readG
  refine Ev.bind (impl_parts s) ?_
  generalize (partsR s).1 = p at hb hsp
  cases (partsR s).2 with
  | false => exact Ev_neg (by simp) (Ev_now fun _ => rfl)
  | true =>
    refine Ev_pos rfl ?_
    by_cases h5 : p.length = 5
    case neg =>
      refine Ev_eq (Ev_now fun k => ?_) (geoR_other p h5).symm
      unfold impl_ReadGeo.g
      split
      · exact absurd rfl h5
      · rfl
    obtain ⟨s0, s1, s2, s3, s4, rfl⟩ := five p h5
    have d1 := decR_small s1
    have d2 := decR_small s2
    have d3 := decR_small s3
    have d4 := decR_small s4
    rw [sumS_cons, sumS_cons, sumS_cons, sumS_cons, sumS_cons] at hb
    refine Ev_now fun k => ?_
    unfold impl_ReadGeo.g
    show (impl_ReadDecimal.f s0).bind _ = _
    rw [impl_rd s0 (by omega), Option.bind_some, impl_rd s1 (by omega), Option.bind_some, impl_rd s2 (by omega), Option.bind_some, impl_rd s3 (by omega), Option.bind_some, impl_rd s4 (by omega), Option.bind_some]
    rw [impl_geoline _ _ _ _ d1 d2 d3 d4, Option.bind_some, impl_line _ (geo_size _ _ _ _ d1 d2 d3 d4) _ (by simp) hsp, Option.bind_some]
    rw [if_pos rfl, geoR_five]
    cases fitL (geoL (decR s1).1 (decR s2).1 (decR s3).1 (decR s4).1) [s0, s1, s2, s3, s4] <;> rfl

/-! ### the law -/
theorem pure : ∀ (x0 : ByteArray), (fun s => s.size ≤ maxLen) x0 → ∃ k, laws_FnExactReadGeo.f k x0 = some true := by
  intro s _
  refine Ev.rounds ?_
  unfold laws_FnExactReadGeo.f
  by_cases h : (s.size : Int) > 1048576
  · exact Ev_pos h (Ev_now fun _ => rfl)
  refine Ev_neg h (Ev.bind (spec_geo s) (Ev.bind (impl_geo s) ?_))
  generalize readG s = r
  obtain ⟨r1, r2, r3, r4, r5⟩ := r
  have eq : laws_eqGeo.f r1 r2 r3 r4 r1 r2 r3 r4 = some true := by
    unfold laws_eqGeo.f
    simp
  exact Ev_const eq (Ev_pos rfl (Ev_neg (by simp) (Ev_now fun _ => rfl)))

end Go.Proofs.YtggfonljcbmjmaaDoor.PFnExactReadGeo
