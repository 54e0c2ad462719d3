import Derived.Lib.LazyBuf
import Derived.Test.YtggfonljcbmjmaaBFnExactIdleIn
import Derived.Test.YtggfonljcbmjmaaOFnExactIdleIn
import Derived.Test.YtggfonljcbmjmaaPFnExactIdleInx8
namespace Go.Proofs.Ytggfonljcbmjmaa.PFnExactIdleIn
open Go.RowKit Go.Proofs.YtggfonljcbmjmaaW.PrintWords Go.Proofs.YtggfonljcbmjmaaW.PrintLast Go.Proofs.YtggfonljcbmjmaaW.PrintMore
set_option linter.unusedVariables false
set_option linter.unusedSimpArgs false
set_option linter.unusedSectionVars false

/-! ### numbers, bytes, rounds -/
theorem wf_i64 {n : Int} (h : (Lit.int .i64 n).wf = true) : -9223372036854775808 ≤ n ∧ n ≤ 9223372036854775807 := by
  simpa [Lit.wf, IntKind.min, IntKind.max, IntKind.signed, IntKind.bits] using h
theorem wrap_id {n : Int} (h0 : -9223372036854775808 ≤ n) (h1 : n ≤ 9223372036854775807) : wrap64 n = n := by unfold wrap64; omega
/-- A string by its bytes. -/
def Sb (l : List UInt8) : ByteArray := ⟨l.toArray⟩
theorem Sb_toList (l : List UInt8) : (Sb l).toList = l := by rw [Lib.toList_data]; rfl
theorem Sb_size (l : List UInt8) : (Sb l).size = l.length := by simp [Sb, ByteArray.size]
theorem Sb_append (a b : List UInt8) : Sb a ++ Sb b = Sb (a ++ b) := by
  apply ByteArray.ext
  simp [Sb]
theorem Sb_of (s : ByteArray) : s = Sb s.data.toList := by
  cases s with
  | mk d => simp [Sb]
theorem toList_inj {a b : ByteArray} : a.toList = b.toList ↔ a = b := by
  constructor
  · intro h
    rw [Lib.toList_data, Lib.toList_data] at h
    cases a; cases b
    congr 1
    exact Array.toList_inj.1 h
  · rintro rfl; rfl
theorem toList_nil {a : ByteArray} : a.toList = ([] : List UInt8) ↔ a = Sb [] := by
  have h := @toList_inj a (Sb [])
  rw [Sb_toList] at h
  exact h
theorem beq_toList (a b : ByteArray) : (a.toList == b.toList) = decide (a = b) := by
  rw [Bool.eq_iff_iff, beq_iff_eq, decide_eq_true_iff]
  exact toList_inj
theorem Ev_now {α : Type} {g : Nat → Option α} {r : α} (h : ∀ k, g k = some r) : Ev g r := ⟨0, fun k _ => h k⟩
theorem Ev_pos {α : Type} {c : Prop} {i : Decidable c} {f g : Nat → Option α} {r : α} (hc : c) (h : Ev f r) : Ev (fun k => @ite _ c i (f k) (g k)) r := by
  simp only [if_pos hc]; exact h
theorem Ev_neg {α : Type} {c : Prop} {i : Decidable c} {f g : Nat → Option α} {r : α} (hc : ¬ c) (h : Ev g r) : Ev (fun k => @ite _ c i (f k) (g k)) r := by
  simp only [if_neg hc]; exact h
theorem Ev_const {α β : Type} {x : Option α} {a : α} {f : Nat → α → Option β} {r : β} (hx : x = some a) (h : Ev (fun k => f k a) r) : Ev (fun k => x.bind (f k)) r := by
  subst hx; exact h
theorem Ev_ite {α : Type} {c : Prop} {i : Decidable c} {f g : Nat → Option α} {a b : α} (h : c → Ev f a) (h' : ¬ c → Ev g b) : Ev (fun k => @ite _ c i (f k) (g k)) (if c then a else b) := by
  by_cases hc : c
  · simp only [if_pos hc]; exact h hc
  · simp only [if_neg hc]; exact h' hc
theorem Ev_eq {α : Type} {g : Nat → Option α} {r r' : α} (h : Ev g r) (e : r = r') : Ev g r' := e ▸ h
theorem bt_Sb (l : List UInt8) (i : Nat) (h : i < l.length) : bt (Sb l) i = (l[i].toNat : Int) := by
  unfold bt
  rw [dif_pos (by rw [Sb_size]; simpa using h)]
  rfl
theorem bt_at' (s : ByteArray) (i : Nat) (h : i < s.size) : bt s i = ((s.data.toList[i]'(by simpa using h)).toNat : Int) := by
  unfold bt
  rw [dif_pos (by simpa using h)]
  rfl

/-! ### rounds over rows: what ends, and how -/
/-- 'ends in a result of which Post holds' -/
def Ends {ρ : Type} (g : Nat → Option ρ) (Post : ρ → Prop) : Prop := ∃ r, Ev g r ∧ Post r
theorem Ends.mono {ρ : Type} {g : Nat → Option ρ} {P Q : ρ → Prop} (h : Ends g P) (hq : ∀ r, P r → Q r) : Ends g Q := by
  obtain ⟨r, e, p⟩ := h
  exact ⟨r, e, hq r p⟩
theorem Ends.now {ρ : Type} {r : ρ} {P : ρ → Prop} (h : P r) : Ends (fun _ => some r) P := ⟨r, Ev_now fun _ => rfl, h⟩
theorem Ends.of {ρ : Type} {g : Nat → Option ρ} {r : ρ} (h : Ev g r) : Ends g (fun x => x = r) := ⟨r, h, rfl⟩
theorem Ends.bind {ρ σ : Type} {g : Nat → Option ρ} {f : Nat → ρ → Option σ} {P : ρ → Prop} {Q : σ → Prop} (h : Ends g P) (k : ∀ r, P r → Ends (fun n => f n r) Q) : Ends (fun n => (g n).bind (f n)) Q := by
  obtain ⟨r, e, p⟩ := h
  obtain ⟨s, e', q⟩ := k r p
  exact ⟨s, Ev.bind e e', q⟩
theorem Ends.cases_ {ρ : Type} {c : Prop} {i : Decidable c} {f g : Nat → Option ρ} {P : ρ → Prop} (h : c → Ends f P) (h' : ¬ c → Ends g P) : Ends (fun k => @ite _ c i (f k) (g k)) P := by
  by_cases hc : c
  · simp only [if_pos hc]; exact h hc
  · simp only [if_neg hc]; exact h' hc
theorem Ends.pos {ρ : Type} {c : Prop} {i : Decidable c} {f g : Nat → Option ρ} {P : ρ → Prop} (hc : c) (h : Ends f P) : Ends (fun k => @ite _ c i (f k) (g k)) P := by
  simp only [if_pos hc]; exact h
theorem Ends.neg {ρ : Type} {c : Prop} {i : Decidable c} {f g : Nat → Option ρ} {P : ρ → Prop} (hc : ¬ c) (h : Ends g P) : Ends (fun k => @ite _ c i (f k) (g k)) P := by
  simp only [if_neg hc]; exact h
theorem Ends.step {ρ : Type} {g f : Nat → Option ρ} {P : ρ → Prop} (h : ∀ k, g (k + 1) = f k) (k : Ends f P) : Ends g P := by
  obtain ⟨r, e, p⟩ := k
  exact ⟨r, Ev.step h e, p⟩
theorem rdOf_at {α : Type} (z : α) (l : List α) (i : Nat) (h : i < l.length) : l.getD ((i : Int)).toNat z = l[i] := by
  rw [show ((i : Int)).toNat = i from rfl, List.getD_eq_getElem?_getD, List.getElem?_eq_getElem h]
  rfl
/-- Rounds over a row by its index: what holds at 0 holds at the end. -/
theorem Ends.rounds {σ ρ : Type} {G : σ → Nat → Option ρ} {Post : ρ → Prop} (n : Nat) (Inv : Nat → σ → Prop) (hend : ∀ s, Inv n s → Ends (G s) Post)
    (hstep : ∀ i s, i < n → Inv i s → (∀ s', Inv (i + 1) s' → Ends (G s') Post) → Ends (G s) Post) : ∀ s, Inv 0 s → Ends (G s) Post := by
  have main : ∀ d i, i + d = n → ∀ s, Inv i s → Ends (G s) Post := by
    intro d
    induction d with
    | zero => intro i hi s hs; exact hend s (by have : i = n := by omega
                                                rw [← this]; exact hs)
    | succ d ih => intro i hi s hs; exact hstep i s (by omega) hs (fun s' hs' => ih (i + 1) (by omega) s' hs')
  exact fun s hs => main n 0 (by omega) s hs
def SmS (s : ByteArray) : Prop := s.size ≤ 1048576
def SmL {α : Type} (P : α → Prop) (l : List α) : Prop := l.length ≤ 1048576 ∧ ∀ x ∈ l, P x
section
variable {α β : Type}
/-- Sizes: what is left shrinks. -/
theorem sz_rows {F : Nat → List α → Int → Int → Option Int} {rd : List α → Int → α} {el : Nat → α → Int → Option Int}
    (hF : ∀ k l a i, F (k + 1) l a i = if i < (l.length : Int) then (if 0 ≤ i then ((el k (rd l i) a).bind fun t => if t < 0 then some (-1) else F k l t (wrap64 (i + 1))) else none) else some a)
    (hrd : ∀ l (i : Nat) (h : i < l.length), rd l (i : Int) = l[i]) {Good : α → Prop} {Sm : α → Prop}
    (hel : ∀ x, Good x → ∀ a, 0 ≤ a → a ≤ 1048576 → Ends (fun k => el k x a) (fun t => t < 0 ∨ (t ≤ a ∧ Sm x)))
    (l : List α) (hl : l.length ≤ 9223372036854775807) (hg : ∀ x ∈ l, Good x) (a : Int) (h0 : 0 ≤ a) (h1 : a ≤ 1048576) :
    Ends (fun k => if wrap64 (a - (l.length : Int)) < 0 then some (-1) else F k l (wrap64 (a - (l.length : Int))) 0) (fun t => t < 0 ∨ (t ≤ a ∧ SmL Sm l)) := by
  have e : wrap64 (a - (l.length : Int)) = a - (l.length : Int) := wrap_id (by omega) (by omega)
  rw [e]
  refine Ends.cases_ (fun _ => Ends.now (.inl (by omega))) (fun hn => ?_)
  have hs : l.length ≤ 1048576 := by omega
  refine Ends.rounds (G := fun (s : Int × Int) k => F k l s.1 s.2) (Post := fun t => t < 0 ∨ (t ≤ a ∧ SmL Sm l)) l.length
    (fun i s => s.2 = (i : Int) ∧ 0 ≤ s.1 ∧ s.1 ≤ a ∧ ∀ j (h : j < l.length), j < i → Sm l[j]) ?_ ?_ (a - (l.length : Int), 0) ⟨rfl, by dsimp only; omega, by dsimp only; omega, fun _ _ h => by omega⟩
  · rintro ⟨x1, x5⟩ ⟨rfl, g0, g1, g2⟩
    dsimp only at g0 g1 ⊢
    refine Ends.step (fun k => by rw [hF]) (Ends.neg (by omega) (Ends.now (.inr ⟨g1, hs, fun x hx => ?_⟩)))
    obtain ⟨j, hj, rfl⟩ := List.getElem_of_mem hx
    exact g2 j hj hj
  · rintro i ⟨x1, x5⟩ hi ⟨rfl, g0, g1, g2⟩ ih
    dsimp only at g0 g1 ih ⊢
    refine Ends.step (fun k => by rw [hF]) (Ends.pos (by omega) (Ends.pos (by omega) ?_))
    rw [hrd l i hi, wrap_id (n := (i : Int) + 1) (by omega) (by omega)]
    refine Ends.bind (hel l[i] (hg _ (List.getElem_mem hi)) x1 g0 (by omega)) (fun t ht => ?_)
    refine Ends.cases_ (fun _ => Ends.now (.inl (by omega))) (fun hn => ?_)
    rcases ht with ht | ⟨ht, hsm⟩
    · exact absurd ht hn
    · refine ih (t, ((i : Int) + 1)) ⟨by push_cast; rfl, by dsimp only; omega, by dsimp only; omega, fun j h hj => ?_⟩
      by_cases hji : j = i
      · subst hji; exact hsm
      · exact g2 j h (by omega)
/-- Copies. -/
theorem to_rows {B : Type} {F : Nat → List α → List β → Int → Option (List β)} {rd : List α → Int → α} {el : Nat → α → Option B} {mk : B → β}
    (hF : ∀ k l m i, F (k + 1) l m i = if i < (l.length : Int) then (if 0 ≤ i then ((el k (rd l i)).bind fun b => if i < (m.length : Int) then F k l (m.set i.toNat (mk b)) (wrap64 (i + 1)) else none) else none) else some m)
    (hrd : ∀ l (i : Nat) (h : i < l.length), rd l (i : Int) = l[i]) (cv : α → β) (l : List α) (hl : l.length ≤ 1048576)
    (hel : ∀ x ∈ l, Ends (fun k => el k x) (fun b => mk b = cv x)) (m : List β) (hm : m.length = l.length) : Ev (fun k => F k l m 0) (l.map cv) := by
  have h := Ends.rounds (G := fun (s : List β × Int) k => F k l s.1 s.2) (Post := fun t => t = l.map cv) l.length
    (fun i s => s.2 = (i : Int) ∧ s.1.length = l.length ∧ s.1.take i = (l.map cv).take i) ?_ ?_ (m, 0) ⟨rfl, hm, by simp⟩
  · obtain ⟨r, e, rfl⟩ := h
    exact e
  · rintro ⟨x3, x4⟩ ⟨rfl, g0, g1⟩
    dsimp only at g0 g1 ⊢
    refine Ends.step (fun k => by rw [hF]) (Ends.neg (by omega) (Ends.now ?_))
    rwa [List.take_of_length_le (by omega), List.take_of_length_le (by simp)] at g1
  · rintro i ⟨x3, x4⟩ hi ⟨rfl, g0, g1⟩ ih
    dsimp only at g0 g1 ih ⊢
    refine Ends.step (fun k => by rw [hF]) (Ends.pos (by omega) (Ends.pos (by omega) ?_))
    rw [hrd l i hi, wrap_id (n := (i : Int) + 1) (by omega) (by omega)]
    refine Ends.bind (hel l[i] (List.getElem_mem hi)) (fun b hb => Ends.pos (by omega) ?_)
    refine ih (_, ((i : Int) + 1)) ⟨by push_cast; rfl, by simpa using g0, ?_⟩
    dsimp only
    rw [show ((i : Int)).toNat = i from rfl, List.take_succ_eq_append_getElem (by simp; omega), List.take_succ_eq_append_getElem (by simpa using hi), List.take_set_of_le (by omega), g1]
    simp [hb]
/-- A row is equal to itself. -/
theorem eq_rows {F : Nat → List α → List α → Int → Option Bool} {rd : List α → Int → α} {el : Nat → α → α → Option Bool}
    (hF : ∀ k l m i, F (k + 1) l m i = if i < (l.length : Int) then (if 0 ≤ i then (if i < (m.length : Int) then ((el k (rd l i) (rd m i)).bind fun t => if t = true then F k l m (wrap64 (i + 1)) else some false) else none) else none) else some true)
    (hrd : ∀ l (i : Nat) (h : i < l.length), rd l (i : Int) = l[i]) (l : List α) (hl : l.length ≤ 1048576) (hel : ∀ x ∈ l, Ev (fun k => el k x x) true) : Ev (fun k => F k l l 0) true := by
  have h := Ends.rounds (G := fun (s : Int) k => F k l l s) (Post := fun t => t = true) l.length (fun i s => s = (i : Int)) ?_ ?_ 0 rfl
  · obtain ⟨r, e, rfl⟩ := h
    exact e
  · rintro x5 rfl
    exact Ends.step (fun k => by rw [hF]) (Ends.neg (by omega) (Ends.now rfl))
  · rintro i x5 hi rfl ih
    refine Ends.step (fun k => by rw [hF]) (Ends.pos (by omega) (Ends.pos (by omega) (Ends.pos (by omega) ?_)))
    rw [hrd l i hi, wrap_id (n := (i : Int) + 1) (by omega) (by omega)]
    refine Ends.bind (Ends.of (hel l[i] (List.getElem_mem hi))) (fun t ht => Ends.pos ht ?_)
    exact ih _ (by push_cast; rfl)
/-- Marks: they end, and the counter has grown by no more than b for each element. -/
theorem mark_rows {F : Nat → List α → Int → Int → Option (Int × List α)} (b : Int) (hb0 : 0 ≤ b) (hb1 : b ≤ 8796093022208)
    (Sm : α → Prop) (hend : ∀ k l a i, ¬ i < (l.length : Int) → F (k + 1) l a i = some (a, l))
    (hstep : ∀ (l : List α) (a : Int) (i : Nat), i < l.length → SmL Sm l → 0 ≤ a → a + b ≤ 4611686018427387904 → ∀ (Post : Int × List α → Prop), (∀ l' a', l'.length = l.length → SmL Sm l' → a ≤ a' → a' ≤ a + b → Ends (fun k => F k l' a' ((i : Int) + 1)) Post) → Ends (fun k => F k l a (i : Int)) Post)
    (l : List α) (hl : SmL Sm l) (a : Int) (h0 : 0 ≤ a) (h1 : a + 1048576 * b ≤ 4611686018427387904) : Ends (fun k => F k l a 0) (fun r => a ≤ r.1 ∧ r.1 ≤ a + 1048576 * b ∧ r.2.length = l.length ∧ SmL Sm r.2) := by
  refine Ends.rounds (G := fun (s : List α × Int × Int) k => F k s.1 s.2.1 s.2.2) (Post := fun r => a ≤ r.1 ∧ r.1 ≤ a + 1048576 * b ∧ r.2.length = l.length ∧ SmL Sm r.2) l.length
    (fun i s => s.2.2 = (i : Int) ∧ s.1.length = l.length ∧ SmL Sm s.1 ∧ a ≤ s.2.1 ∧ s.2.1 ≤ a + (i : Int) * b) ?_ ?_ (l, a, 0) ⟨rfl, rfl, hl, Int.le_refl _, by simp⟩
  · rintro ⟨x0, x1, x5⟩ ⟨rfl, g0, g1, g2, g3⟩
    dsimp only at g0 g1 g2 g3 ⊢
    have hm : (l.length : Int) * b ≤ 1048576 * b := Int.mul_le_mul_of_nonneg_right (by have := hl.1; omega) hb0
    exact Ends.step (fun k => hend k x0 x1 _ (by omega)) (Ends.now ⟨g2, by omega, g0, g1⟩)
  · rintro i ⟨x0, x1, x5⟩ hi ⟨rfl, g0, g1, g2, g3⟩ ih
    dsimp only at g0 g1 g2 g3 ih ⊢
    have hm : ((i : Int) + 1) * b ≤ 1048576 * b := Int.mul_le_mul_of_nonneg_right (by have := hl.1; omega) hb0
    rw [Int.add_mul, Int.one_mul] at hm
    refine hstep x0 x1 i (by omega) g1 (by omega) (by omega) _ (fun l' a' e1 e2 e3 e4 => ih (l', a', ((i : Int) + 1)) ⟨by push_cast; rfl, by dsimp only; omega, e2, by dsimp only; omega, ?_⟩)
    dsimp only
    push_cast
    rw [Int.add_mul, Int.one_mul]
    omega
end
theorem SmL_set {α : Type} {P : α → Prop} {l : List α} (h : SmL P l) (i : Nat) {x : α} (hx : P x) : SmL P (l.set i x) := ⟨by simpa using h.1, fun y hy => by
  rcases List.mem_or_eq_of_mem_set hy with h' | rfl
  · exact h.2 y h'
  · exact hx⟩

/-! ### the mark's text, and rows of strings -/
theorem mark_text_loop : ∀ (d : Nat) (x0 : Int) (x3 : ByteArray), 0 ≤ x0 → x0 < 10 ^ d → d ≤ 19 → x3.size + d ≤ 30 → Ends (fun k => laws_markText.l0 k x0 x3) (fun t => t.size ≤ 31)
  | 0, x0, x3, h0, h1, hd, hs => by
    refine Ends.step (fun k => by rw [laws_markText.l0]) (Ends.neg (by simp at h1; omega) (Ends.pos (by omega) (Ends.now ?_)))
    rw [ByteArray.size_append]
    show 1 + x3.size ≤ 31
    omega
  | d + 1, x0, x3, h0, h1, hd, hs => by
    refine Ends.step (fun k => by rw [laws_markText.l0]) (Ends.cases_ (fun hp => ?_) (fun hn => Ends.pos (by omega) (Ends.now ?_)))
    · simp only [Option.bind_some]
      have hz : ∀ n : Int, (strOfNums [n]).size = 1 := fun n => by simp [strOfNums, ByteArray.size]
      have hb : (10 : Int) ^ (d + 1) ≤ 10 ^ 19 := by exact_mod_cast Nat.pow_le_pow_right (by decide : 1 ≤ 10) hd
      have e1 : wrap64 (Int.tdiv x0 10) = Int.tdiv x0 10 := by
        rw [Int.tdiv_eq_ediv_of_nonneg h0]
        exact wrap_id (by omega) (by omega)
      rw [hz, e1, Int.tdiv_eq_ediv_of_nonneg h0]
      refine Ends.pos (by omega) (mark_text_loop d _ _ (by omega) ?_ (by omega) ?_)
      · rw [Int.pow_succ] at h1
        omega
      · rw [ByteArray.size_append, hz]
        omega
    · rw [ByteArray.size_append]
      show 1 + x3.size ≤ 31
      omega
theorem mark_text (a : Int) (h0 : 0 ≤ a) (h1 : a ≤ 4611686018427400000) : Ends (fun k => laws_markText.f k a) SmS := by
  unfold laws_markText.f
  refine Ends.cases_ (fun _ => Ends.now (by unfold SmS; decide)) (fun _ => (mark_text_loop 19 a _ h0 (Int.lt_of_lt_of_le (show a < 10000000000000000000 by omega) (by decide)) (by omega) (by decide)).mono (fun t ht => ?_))
  unfold SmS
  omega
theorem szS_String (l : List ByteArray) (hl : l.length ≤ 9223372036854775807) (hg : ∀ b ∈ l, b.size ≤ 9223372036854775807) (a : Int) (h0 : 0 ≤ a) (h1 : a ≤ 1048576) : Ends (fun k => laws_szStringS.f k l a) (fun t => t < 0 ∨ (t ≤ a ∧ SmL SmS l)) := by
  unfold laws_szStringS.f
  refine sz_rows (F := laws_szStringS.l0) (rd := rdOf ByteArray.empty) (el := fun k x a => if wrap64 (a - (x.size : Int)) < 0 then some (-1) else some (wrap64 (a - (x.size : Int)))) (fun k l a i => ?_) (fun l i h => rdOf_at _ l i h) (Good := fun x => x.size ≤ 9223372036854775807) (Sm := SmS) (fun x g a h0 h1 => ?_) l hl hg a h0 h1
  · rw [laws_szStringS.l0]
    by_cases c : wrap64 (a - ((rdOf ByteArray.empty l i).size : Int)) < 0
    · simp only [if_pos c, Option.bind_some]; simp
    · simp only [if_neg c, Option.bind_some]
  · have e : wrap64 (a - (x.size : Int)) = a - (x.size : Int) := wrap_id (by omega) (by omega)
    rw [e]
    exact Ends.cases_ (fun _ => Ends.now (.inl (by omega))) (fun hn => Ends.now (.inr ⟨by omega, by unfold SmS; omega⟩))
theorem toS_String (l : List ByteArray) (h : SmL SmS l) : Ends (fun k => laws_toStringS.f k l) (fun b => b = l) := by
  have hl := h.1
  unfold laws_toStringS.f
  refine Ends.pos (by omega) (Ends.pos (by omega) (Ends.of ?_))
  have e := to_rows (F := laws_toStringS.l0) (rd := rdOf ByteArray.empty) (el := fun _ x => some x) (mk := fun b : ByteArray => b) (fun k l m i => by rw [laws_toStringS.l0]; rfl) (fun l i h => rdOf_at _ l i h) (fun x => x) l hl (fun x hx => Ends.now rfl) (List.replicate ((l.length : Int)).toNat (⟨#[]⟩ : ByteArray)) (by simp)
  rwa [List.map_id'] at e
theorem eqS_String (l : List ByteArray) (h : SmL SmS l) : Ev (fun k => laws_eqStringS.f k l l) true := by
  unfold laws_eqStringS.f
  refine Ev_pos rfl ?_
  exact eq_rows (F := laws_eqStringS.l0) (rd := rdOf ByteArray.empty) (el := fun _ x y => some (decide (x.toList = y.toList))) (fun k l m i => by
    rw [laws_eqStringS.l0]
    by_cases c : (rdOf ByteArray.empty l i).toList = (rdOf ByteArray.empty m i).toList
    · simp [c]
    · simp [c]) (fun l i h => rdOf_at _ l i h) l h.1 (fun x _ => Ev_now fun _ => by simp)
theorem markS_String (l : List ByteArray) (hl : SmL SmS l) (a : Int) (h0 : 0 ≤ a) (h1 : a + 1048576 ≤ 4611686018427387904) : Ends (fun k => laws_markStringS.f k l a) (fun r => a ≤ r.1 ∧ r.1 ≤ a + 1048576 ∧ r.2.length = l.length ∧ SmL SmS r.2) := by
  refine mark_rows (F := laws_markStringS.l0) 1 (by omega) (by omega) SmS (fun k l a i hi => by rw [laws_markStringS.l0, if_neg hi]) ?_ l hl a h0 (by omega)
  intro l a i hi hs h0 h1 Post hk
  have hb := hs.1
  have w0 : wrap64 (a + 1) = a + 1 := wrap_id (by omega) (by omega)
  have wi : wrap64 ((i : Int) + 1) = (i : Int) + 1 := wrap_id (by omega) (by omega)
  refine Ends.step (fun k => by rw [laws_markStringS.l0]) ?_
  simp only [wi, w0]
  refine Ends.pos (by omega) (Ends.bind (mark_text _ (by omega) (by omega)) (fun t ht => Ends.pos (by omega) ?_))
  exact hk _ _ (by simp) (SmL_set hs _ ht) (by omega) (by omega)

/-! ### rows of numbers -/
theorem rd_at (l : List Int) (i : Nat) (h : i < l.length) : rd l (i : Int) = l[i] := rdOf_at 0 l i h
theorem eqS_Int (l : List Int) (hl : l.length ≤ 1048576) : Ev (fun k => laws_eqIntS.f k l l) true := by
  unfold laws_eqIntS.f
  refine Ev_pos rfl ?_
  exact eq_rows (F := laws_eqIntS.l0) (rd := rd) (el := fun _ x y => some (decide (x = y))) (fun k l m i => by
    rw [laws_eqIntS.l0]
    by_cases c : rd l i = rd m i
    · simp [c]
    · simp [c]) rd_at l hl (fun x _ => Ev_now fun _ => by simp)
def up (a : Int) (n : Nat) : List Int := (List.range n).map (fun j : Nat => a + (j : Int))
theorem up_get (a : Int) (n i : Nat) (h : i < (up a n).length) : (up a n)[i] = a + (i : Int) := by simp [up]
theorem markS_Int (l : List Int) (hl : l.length ≤ 1048576) : Ev (fun k => laws_markIntS.f k l 1) (1 + (l.length : Int), up 1 l.length) := by
  unfold laws_markIntS.f
  have h := Ends.rounds (G := fun (s : List Int × Int × Int) k => laws_markIntS.l0 k s.1 s.2.1 s.2.2) (Post := fun r => r = (1 + (l.length : Int), up 1 l.length)) l.length
    (fun i s => s.2.2 = (i : Int) ∧ s.1.length = l.length ∧ s.2.1 = 1 + (i : Int) ∧ s.1.take i = up 1 i) ?_ ?_ (l, 1, 0) ⟨rfl, rfl, by simp, by simp [up]⟩
  · obtain ⟨r, e, rfl⟩ := h
    exact e
  · rintro ⟨x0, x1, x5⟩ ⟨rfl, g0, g1, g2⟩
    dsimp only at g0 g1 g2 ⊢
    refine Ends.step (fun k => by rw [laws_markIntS.l0]) (Ends.neg (by omega) (Ends.now ?_))
    rw [List.take_of_length_le (by omega)] at g2
    rw [g1, g2]
  · rintro i ⟨x0, x1, x5⟩ hi ⟨rfl, g0, g1, g2⟩ ih
    dsimp only at g0 g1 g2 ih ⊢
    refine Ends.step (fun k => by rw [laws_markIntS.l0]) (Ends.pos (by omega) (Ends.pos (by omega) ?_))
    rw [wrap_id (n := (i : Int) + 1) (by omega) (by omega), wrap_id (n := x1 + 1) (by omega) (by omega), show ((i : Int)).toNat = i from rfl]
    refine ih (_, _, ((i : Int) + 1)) ⟨by push_cast; rfl, by simpa using g0, by dsimp only; push_cast; omega, ?_⟩
    dsimp only
    rw [List.take_succ_eq_append_getElem (by simp; omega), List.take_set_of_le (by omega), g2]
    simp [up, List.range_succ, g1]
theorem held_Int (n : Nat) (hn : n ≤ 1048576) : Ev (fun k => laws_heldIntS.f k (up 1 n) 1) (1 + (n : Int)) := by
  unfold laws_heldIntS.f
  have hl : (up 1 n).length = n := by simp [up]
  have h := Ends.rounds (G := fun (s : Int × Int) k => laws_heldIntS.l0 k (up 1 n) s.1 s.2) (Post := fun r => r = 1 + (n : Int)) n (fun i s => s.2 = (i : Int) ∧ s.1 = 1 + (i : Int)) ?_ ?_ (1, 0) ⟨rfl, by simp⟩
  · obtain ⟨r, e, rfl⟩ := h
    exact e
  · rintro ⟨x1, x5⟩ ⟨rfl, rfl⟩
    exact Ends.step (fun k => by rw [laws_heldIntS.l0]) (Ends.neg (by omega) (Ends.now rfl))
  · rintro i ⟨x1, x5⟩ hi ⟨rfl, rfl⟩ ih
    dsimp only at ih ⊢
    refine Ends.step (fun k => by rw [laws_heldIntS.l0]) (Ends.pos (by omega) (Ends.pos (by omega) (Ends.pos ?_ ?_)))
    · rw [rd_at _ i (by omega), up_get]
    · rw [wrap_id (n := (i : Int) + 1) (by omega) (by omega), wrap_id (n := 1 + (i : Int) + 1) (by omega) (by omega)]
      exact ih (_, ((i : Int) + 1)) ⟨by push_cast; rfl, by push_cast; omega⟩

def Sm_Cell (y : S112) : Prop := SmS y.f1
def cv_Cell (x : S152) : S112 := ⟨x.f0, x.f1, x.f2⟩
theorem sz_Cell (x : S152) (g : good152 x) (a : Int) (h0 : 0 ≤ a) (h1 : a ≤ 1048576) : Ends (fun k => laws_szCell.f (x.f0) (x.f1) (x.f2) a) (fun t => t < 0 ∨ (t ≤ a ∧ Sm_Cell (cv_Cell x))) := by
  unfold laws_szCell.f
  have g0 : x.f1.size ≤ 9223372036854775807 := (g.2.1)
  have w0 : wrap64 (a - (x.f1.size : Int)) = a - (x.f1.size : Int) := wrap_id (by omega) (by omega)
  rw [w0]
  refine Ends.cases_ (fun _ => Ends.now (.inl (by omega))) (fun hn0 => ?_)
  obtain ⟨t0, e0⟩ : ∃ t, t = a - (x.f1.size : Int) := ⟨_, rfl⟩
  rw [← e0]
  rw [← e0] at hn0
  exact Ends.now (.inr ⟨by omega, (show (x.f1).size ≤ 1048576 by omega)⟩)
theorem szS_Cell (l : List (S152)) (hl : l.length ≤ 9223372036854775807) (hg : ∀ x ∈ l, good152 x) (a : Int) (h0 : 0 ≤ a) (h1 : a ≤ 1048576) : Ends (fun k => laws_szCellS.f k l a) (fun t => t < 0 ∨ (t ≤ a ∧ SmL Sm_Cell (l.map cv_Cell))) := by
  refine (sz_rows (F := laws_szCellS.l0) (rd := rd_T152) (el := fun k x a => laws_szCell.f (x.f0) (x.f1) (x.f2) a) (fun k l a i => by rw [laws_szCellS.l0]) (fun l i h => rdOf_at _ l i h) (Good := good152) (Sm := fun x => Sm_Cell (cv_Cell x)) (fun x g a h0 h1 => sz_Cell x g a h0 h1) l hl hg a h0 h1).mono (fun t ht => ht.imp_right (fun ht => ⟨ht.1, ⟨by simpa using ht.2.1, ?_⟩⟩))
  intro y hy
  obtain ⟨x, hx, rfl⟩ := List.mem_map.1 hy
  exact ht.2.2 x hx
theorem to_Cell (x : S152) (h : Sm_Cell (cv_Cell x)) : Ends (fun k => laws_toCell.f (x.f0) (x.f1) (x.f2)) (fun b => b = ((cv_Cell x).f0, (cv_Cell x).f1, (cv_Cell x).f2)) := by
  unfold laws_toCell.f
  exact Ends.now rfl
theorem toS_Cell (l : List (S152)) (h : SmL Sm_Cell (l.map cv_Cell)) : Ends (fun k => laws_toCellS.f k l) (fun b => b = l.map cv_Cell) := by
  have hl : l.length ≤ 1048576 := by simpa using h.1
  unfold laws_toCellS.f
  refine Ends.pos (by omega) (Ends.pos (by omega) (Ends.of ?_))
  exact to_rows (F := laws_toCellS.l0) (rd := rd_T152) (el := fun k x => laws_toCell.f (x.f0) (x.f1) (x.f2)) (mk := fun b => (⟨b.1, b.2.1, b.2.2⟩ : S112)) (fun k l m i => by rw [laws_toCellS.l0]) (fun l i h => rdOf_at _ l i h) cv_Cell l hl (fun x hx => (to_Cell x (h.2 _ (List.mem_map_of_mem hx))).mono (fun b hb => by subst hb; rfl)) _ (by simp)
theorem eq_Cell (y : S112) (h : Sm_Cell y) : Ev (fun k => laws_eqCell.f (y.f0) (y.f1) (y.f2) (y.f0) (y.f1) (y.f2)) true := by
  unfold laws_eqCell.f
  repeat (first | exact Ev_now fun _ => rfl | refine Ev_pos rfl ?_ | refine Ev_pos ⟨rfl, rfl, rfl⟩ ?_ | refine Ev_neg (by simp) ?_ | exact Ev_now fun _ => by simp)
theorem eqS_Cell (l : List (S112)) (h : SmL Sm_Cell l) : Ev (fun k => laws_eqCellS.f k l l) true := by
  unfold laws_eqCellS.f
  exact Ev_pos rfl (eq_rows (F := laws_eqCellS.l0) (rd := rd_T112) (el := fun k x y => laws_eqCell.f (x.f0) (x.f1) (x.f2) (y.f0) (y.f1) (y.f2)) (fun k l m i => by rw [laws_eqCellS.l0]) (fun l i h => rdOf_at _ l i h) l h.1 (fun x hx => eq_Cell x (h.2 x hx)))
theorem markS_Cell (l : List (S112)) (hl : SmL Sm_Cell l) (a : Int) (h0 : 0 ≤ a) (h1 : a + 3145728 ≤ 4611686018427387904) : Ends (fun k => laws_markCellS.f k l a) (fun r => a ≤ r.1 ∧ r.1 ≤ a + 3145728 ∧ r.2.length = l.length ∧ SmL Sm_Cell r.2) := by
  refine mark_rows (F := laws_markCellS.l0) 3 (by omega) (by omega) Sm_Cell (fun k l a i hi => by rw [laws_markCellS.l0, if_neg hi]) ?_ l hl a h0 (by omega)
  intro l a i hi hs h0 h1 Post hk
  have hb := hs.1
  have w0 : wrap64 (a + 1) = a + 1 := by have e_ := wrap_id (n := a + 1) (by omega) (by omega); omega
  have w1 : wrap64 ((a + 1) + 1) = a + 2 := by have e_ := wrap_id (n := (a + 1) + 1) (by omega) (by omega); omega
  have w2 : wrap64 ((a + 2) + 1) = a + 3 := by have e_ := wrap_id (n := (a + 2) + 1) (by omega) (by omega); omega
  have wi : wrap64 ((i : Int) + 1) = (i : Int) + 1 := wrap_id (by omega) (by omega)
  refine Ends.step (fun k => by rw [laws_markCellS.l0]) ?_
  simp only [Option.bind_some, wi, w0, w1, w2]
  repeat (first | refine Ends.pos (by omega) ?_ | refine Ends.bind (mark_text _ (by omega) (by omega)) (fun t ht => ?_))
  refine hk _ _ (by simp) ?_ (by omega) (by omega)
  have hr : ∀ v, rd_T112 (l.set i v) (i : Int) = v := fun v => by rw [show rd_T112 (l.set i v) (i : Int) = (l.set i v).getD ((i : Int)).toNat z112 from rfl, rdOf_at _ _ i (by simpa using hi)]; simp
  simp only [Int.toNat_natCast, List.set_set, hr]
  refine SmL_set hs i ?_
  unfold Sm_Cell
  first | trivial | (refine ⟨?_, ?_, ?_, ?_⟩ <;> assumption) | (refine ⟨?_, ?_, ?_⟩ <;> assumption) | (refine ⟨?_, ?_⟩ <;> assumption) | assumption
def Sm_Sealing (y : S131) : Prop := SmS y.f0 ∧ SmS y.f1 ∧ SmS y.f2
def cv_Sealing (x : S128) : S131 := ⟨x.f0, x.f1, x.f2⟩
theorem sz_Sealing (x : S128) (g : good128 x) (a : Int) (h0 : 0 ≤ a) (h1 : a ≤ 1048576) : Ends (fun k => laws_szSealing.f (x.f0) (x.f1) (x.f2) a) (fun t => t < 0 ∨ (t ≤ a ∧ Sm_Sealing (cv_Sealing x))) := by
  unfold laws_szSealing.f
  have g0 : x.f0.size ≤ 9223372036854775807 := (g.1)
  have w0 : wrap64 (a - (x.f0.size : Int)) = a - (x.f0.size : Int) := wrap_id (by omega) (by omega)
  rw [w0]
  refine Ends.cases_ (fun _ => Ends.now (.inl (by omega))) (fun hn0 => ?_)
  obtain ⟨t0, e0⟩ : ∃ t, t = a - (x.f0.size : Int) := ⟨_, rfl⟩
  rw [← e0]
  rw [← e0] at hn0
  have g1 : x.f1.size ≤ 9223372036854775807 := (g.2.1)
  have w1 : wrap64 (t0 - (x.f1.size : Int)) = t0 - (x.f1.size : Int) := wrap_id (by omega) (by omega)
  rw [w1]
  refine Ends.cases_ (fun _ => Ends.now (.inl (by omega))) (fun hn1 => ?_)
  obtain ⟨t1, e1⟩ : ∃ t, t = t0 - (x.f1.size : Int) := ⟨_, rfl⟩
  rw [← e1]
  rw [← e1] at hn1
  have g2 : x.f2.size ≤ 9223372036854775807 := (g.2.2)
  have w2 : wrap64 (t1 - (x.f2.size : Int)) = t1 - (x.f2.size : Int) := wrap_id (by omega) (by omega)
  rw [w2]
  refine Ends.cases_ (fun _ => Ends.now (.inl (by omega))) (fun hn2 => ?_)
  obtain ⟨t2, e2⟩ : ∃ t, t = t1 - (x.f2.size : Int) := ⟨_, rfl⟩
  rw [← e2]
  rw [← e2] at hn2
  exact Ends.now (.inr ⟨by omega, ⟨(show (x.f0).size ≤ 1048576 by omega), (show (x.f1).size ≤ 1048576 by omega), (show (x.f2).size ≤ 1048576 by omega)⟩⟩)
theorem szS_Sealing (l : List (S128)) (hl : l.length ≤ 9223372036854775807) (hg : ∀ x ∈ l, good128 x) (a : Int) (h0 : 0 ≤ a) (h1 : a ≤ 1048576) : Ends (fun k => laws_szSealingS.f k l a) (fun t => t < 0 ∨ (t ≤ a ∧ SmL Sm_Sealing (l.map cv_Sealing))) := by
  refine (sz_rows (F := laws_szSealingS.l0) (rd := rd_T128) (el := fun k x a => laws_szSealing.f (x.f0) (x.f1) (x.f2) a) (fun k l a i => by rw [laws_szSealingS.l0]) (fun l i h => rdOf_at _ l i h) (Good := good128) (Sm := fun x => Sm_Sealing (cv_Sealing x)) (fun x g a h0 h1 => sz_Sealing x g a h0 h1) l hl hg a h0 h1).mono (fun t ht => ht.imp_right (fun ht => ⟨ht.1, ⟨by simpa using ht.2.1, ?_⟩⟩))
  intro y hy
  obtain ⟨x, hx, rfl⟩ := List.mem_map.1 hy
  exact ht.2.2 x hx
theorem to_Sealing (x : S128) (h : Sm_Sealing (cv_Sealing x)) : Ends (fun k => laws_toSealing.f (x.f0) (x.f1) (x.f2)) (fun b => b = ((cv_Sealing x).f0, (cv_Sealing x).f1, (cv_Sealing x).f2)) := by
  unfold laws_toSealing.f
  exact Ends.now rfl
theorem toS_Sealing (l : List (S128)) (h : SmL Sm_Sealing (l.map cv_Sealing)) : Ends (fun k => laws_toSealingS.f k l) (fun b => b = l.map cv_Sealing) := by
  have hl : l.length ≤ 1048576 := by simpa using h.1
  unfold laws_toSealingS.f
  refine Ends.pos (by omega) (Ends.pos (by omega) (Ends.of ?_))
  exact to_rows (F := laws_toSealingS.l0) (rd := rd_T128) (el := fun k x => laws_toSealing.f (x.f0) (x.f1) (x.f2)) (mk := fun b => (⟨b.1, b.2.1, b.2.2⟩ : S131)) (fun k l m i => by rw [laws_toSealingS.l0]) (fun l i h => rdOf_at _ l i h) cv_Sealing l hl (fun x hx => (to_Sealing x (h.2 _ (List.mem_map_of_mem hx))).mono (fun b hb => by subst hb; rfl)) _ (by simp)
theorem eq_Sealing (y : S131) (h : Sm_Sealing y) : Ev (fun k => laws_eqSealing.f (y.f0) (y.f1) (y.f2) (y.f0) (y.f1) (y.f2)) true := by
  unfold laws_eqSealing.f
  repeat (first | exact Ev_now fun _ => rfl | refine Ev_pos rfl ?_ | refine Ev_pos ⟨rfl, rfl, rfl⟩ ?_ | refine Ev_neg (by simp) ?_ | exact Ev_now fun _ => by simp)
theorem eqS_Sealing (l : List (S131)) (h : SmL Sm_Sealing l) : Ev (fun k => laws_eqSealingS.f k l l) true := by
  unfold laws_eqSealingS.f
  exact Ev_pos rfl (eq_rows (F := laws_eqSealingS.l0) (rd := rd_T131) (el := fun k x y => laws_eqSealing.f (x.f0) (x.f1) (x.f2) (y.f0) (y.f1) (y.f2)) (fun k l m i => by rw [laws_eqSealingS.l0]) (fun l i h => rdOf_at _ l i h) l h.1 (fun x hx => eq_Sealing x (h.2 x hx)))
theorem markS_Sealing (l : List (S131)) (hl : SmL Sm_Sealing l) (a : Int) (h0 : 0 ≤ a) (h1 : a + 3145728 ≤ 4611686018427387904) : Ends (fun k => laws_markSealingS.f k l a) (fun r => a ≤ r.1 ∧ r.1 ≤ a + 3145728 ∧ r.2.length = l.length ∧ SmL Sm_Sealing r.2) := by
  refine mark_rows (F := laws_markSealingS.l0) 3 (by omega) (by omega) Sm_Sealing (fun k l a i hi => by rw [laws_markSealingS.l0, if_neg hi]) ?_ l hl a h0 (by omega)
  intro l a i hi hs h0 h1 Post hk
  have hb := hs.1
  have w0 : wrap64 (a + 1) = a + 1 := by have e_ := wrap_id (n := a + 1) (by omega) (by omega); omega
  have w1 : wrap64 ((a + 1) + 1) = a + 2 := by have e_ := wrap_id (n := (a + 1) + 1) (by omega) (by omega); omega
  have w2 : wrap64 ((a + 2) + 1) = a + 3 := by have e_ := wrap_id (n := (a + 2) + 1) (by omega) (by omega); omega
  have wi : wrap64 ((i : Int) + 1) = (i : Int) + 1 := wrap_id (by omega) (by omega)
  refine Ends.step (fun k => by rw [laws_markSealingS.l0]) ?_
  simp only [Option.bind_some, wi, w0, w1, w2]
  repeat (first | refine Ends.pos (by omega) ?_ | refine Ends.bind (mark_text _ (by omega) (by omega)) (fun t ht => ?_))
  refine hk _ _ (by simp) ?_ (by omega) (by omega)
  have hr : ∀ v, rd_T131 (l.set i v) (i : Int) = v := fun v => by rw [show rd_T131 (l.set i v) (i : Int) = (l.set i v).getD ((i : Int)).toNat z131 from rfl, rdOf_at _ _ i (by simpa using hi)]; simp
  simp only [Int.toNat_natCast, List.set_set, hr]
  refine SmL_set hs i ?_
  unfold Sm_Sealing
  first | trivial | (refine ⟨?_, ?_, ?_, ?_⟩ <;> assumption) | (refine ⟨?_, ?_, ?_⟩ <;> assumption) | (refine ⟨?_, ?_⟩ <;> assumption) | assumption
def Sm_Step (y : S162) : Prop := SmS y.f2
def cv_Step (x : S169) : S162 := ⟨x.f0, x.f1, x.f2⟩
theorem sz_Step (x : S169) (g : good169 x) (a : Int) (h0 : 0 ≤ a) (h1 : a ≤ 1048576) : Ends (fun k => laws_szStep.f (x.f0) (x.f1) (x.f2) a) (fun t => t < 0 ∨ (t ≤ a ∧ Sm_Step (cv_Step x))) := by
  unfold laws_szStep.f
  have g0 : x.f2.size ≤ 9223372036854775807 := (g.2.2)
  have w0 : wrap64 (a - (x.f2.size : Int)) = a - (x.f2.size : Int) := wrap_id (by omega) (by omega)
  rw [w0]
  refine Ends.cases_ (fun _ => Ends.now (.inl (by omega))) (fun hn0 => ?_)
  obtain ⟨t0, e0⟩ : ∃ t, t = a - (x.f2.size : Int) := ⟨_, rfl⟩
  rw [← e0]
  rw [← e0] at hn0
  exact Ends.now (.inr ⟨by omega, (show (x.f2).size ≤ 1048576 by omega)⟩)
theorem szS_Step (l : List (S169)) (hl : l.length ≤ 9223372036854775807) (hg : ∀ x ∈ l, good169 x) (a : Int) (h0 : 0 ≤ a) (h1 : a ≤ 1048576) : Ends (fun k => laws_szStepS.f k l a) (fun t => t < 0 ∨ (t ≤ a ∧ SmL Sm_Step (l.map cv_Step))) := by
  refine (sz_rows (F := laws_szStepS.l0) (rd := rd_T169) (el := fun k x a => laws_szStep.f (x.f0) (x.f1) (x.f2) a) (fun k l a i => by rw [laws_szStepS.l0]) (fun l i h => rdOf_at _ l i h) (Good := good169) (Sm := fun x => Sm_Step (cv_Step x)) (fun x g a h0 h1 => sz_Step x g a h0 h1) l hl hg a h0 h1).mono (fun t ht => ht.imp_right (fun ht => ⟨ht.1, ⟨by simpa using ht.2.1, ?_⟩⟩))
  intro y hy
  obtain ⟨x, hx, rfl⟩ := List.mem_map.1 hy
  exact ht.2.2 x hx
theorem to_Step (x : S169) (h : Sm_Step (cv_Step x)) : Ends (fun k => laws_toStep.f (x.f0) (x.f1) (x.f2)) (fun b => b = ((cv_Step x).f0, (cv_Step x).f1, (cv_Step x).f2)) := by
  unfold laws_toStep.f
  exact Ends.now rfl
theorem toS_Step (l : List (S169)) (h : SmL Sm_Step (l.map cv_Step)) : Ends (fun k => laws_toStepS.f k l) (fun b => b = l.map cv_Step) := by
  have hl : l.length ≤ 1048576 := by simpa using h.1
  unfold laws_toStepS.f
  refine Ends.pos (by omega) (Ends.pos (by omega) (Ends.of ?_))
  exact to_rows (F := laws_toStepS.l0) (rd := rd_T169) (el := fun k x => laws_toStep.f (x.f0) (x.f1) (x.f2)) (mk := fun b => (⟨b.1, b.2.1, b.2.2⟩ : S162)) (fun k l m i => by rw [laws_toStepS.l0]) (fun l i h => rdOf_at _ l i h) cv_Step l hl (fun x hx => (to_Step x (h.2 _ (List.mem_map_of_mem hx))).mono (fun b hb => by subst hb; rfl)) _ (by simp)
theorem eq_Step (y : S162) (h : Sm_Step y) : Ev (fun k => laws_eqStep.f (y.f0) (y.f1) (y.f2) (y.f0) (y.f1) (y.f2)) true := by
  unfold laws_eqStep.f
  repeat (first | exact Ev_now fun _ => rfl | refine Ev_pos rfl ?_ | refine Ev_pos ⟨rfl, rfl, rfl⟩ ?_ | refine Ev_neg (by simp) ?_ | exact Ev_now fun _ => by simp)
theorem eqS_Step (l : List (S162)) (h : SmL Sm_Step l) : Ev (fun k => laws_eqStepS.f k l l) true := by
  unfold laws_eqStepS.f
  exact Ev_pos rfl (eq_rows (F := laws_eqStepS.l0) (rd := rd_T162) (el := fun k x y => laws_eqStep.f (x.f0) (x.f1) (x.f2) (y.f0) (y.f1) (y.f2)) (fun k l m i => by rw [laws_eqStepS.l0]) (fun l i h => rdOf_at _ l i h) l h.1 (fun x hx => eq_Step x (h.2 x hx)))
theorem markS_Step (l : List (S162)) (hl : SmL Sm_Step l) (a : Int) (h0 : 0 ≤ a) (h1 : a + 3145728 ≤ 4611686018427387904) : Ends (fun k => laws_markStepS.f k l a) (fun r => a ≤ r.1 ∧ r.1 ≤ a + 3145728 ∧ r.2.length = l.length ∧ SmL Sm_Step r.2) := by
  refine mark_rows (F := laws_markStepS.l0) 3 (by omega) (by omega) Sm_Step (fun k l a i hi => by rw [laws_markStepS.l0, if_neg hi]) ?_ l hl a h0 (by omega)
  intro l a i hi hs h0 h1 Post hk
  have hb := hs.1
  have w0 : wrap64 (a + 1) = a + 1 := by have e_ := wrap_id (n := a + 1) (by omega) (by omega); omega
  have w1 : wrap64 ((a + 1) + 1) = a + 2 := by have e_ := wrap_id (n := (a + 1) + 1) (by omega) (by omega); omega
  have w2 : wrap64 ((a + 2) + 1) = a + 3 := by have e_ := wrap_id (n := (a + 2) + 1) (by omega) (by omega); omega
  have wi : wrap64 ((i : Int) + 1) = (i : Int) + 1 := wrap_id (by omega) (by omega)
  refine Ends.step (fun k => by rw [laws_markStepS.l0]) ?_
  simp only [Option.bind_some, wi, w0, w1, w2]
  repeat (first | refine Ends.pos (by omega) ?_ | refine Ends.bind (mark_text _ (by omega) (by omega)) (fun t ht => ?_))
  refine hk _ _ (by simp) ?_ (by omega) (by omega)
  have hr : ∀ v, rd_T162 (l.set i v) (i : Int) = v := fun v => by rw [show rd_T162 (l.set i v) (i : Int) = (l.set i v).getD ((i : Int)).toNat z162 from rfl, rdOf_at _ _ i (by simpa using hi)]; simp
  simp only [Int.toNat_natCast, List.set_set, hr]
  refine SmL_set hs i ?_
  unfold Sm_Step
  first | trivial | (refine ⟨?_, ?_, ?_, ?_⟩ <;> assumption) | (refine ⟨?_, ?_, ?_⟩ <;> assumption) | (refine ⟨?_, ?_⟩ <;> assumption) | assumption
def Sm_Ask (y : S90) : Prop := SmS y.f1 ∧ SmS y.f2 ∧ SmS y.f5
def cv_Ask (x : S122) : S90 := ⟨x.f0, x.f1, x.f2, x.f3, x.f4, x.f5⟩
theorem sz_Ask (x : S122) (g : good122 x) (a : Int) (h0 : 0 ≤ a) (h1 : a ≤ 1048576) : Ends (fun k => laws_szAsk.f (x.f0) (x.f1) (x.f2) (x.f3) (x.f4) (x.f5) a) (fun t => t < 0 ∨ (t ≤ a ∧ Sm_Ask (cv_Ask x))) := by
  unfold laws_szAsk.f
  have g0 : x.f1.size ≤ 9223372036854775807 := (g.2.1)
  have w0 : wrap64 (a - (x.f1.size : Int)) = a - (x.f1.size : Int) := wrap_id (by omega) (by omega)
  rw [w0]
  refine Ends.cases_ (fun _ => Ends.now (.inl (by omega))) (fun hn0 => ?_)
  obtain ⟨t0, e0⟩ : ∃ t, t = a - (x.f1.size : Int) := ⟨_, rfl⟩
  rw [← e0]
  rw [← e0] at hn0
  have g1 : x.f2.size ≤ 9223372036854775807 := (g.2.2.1)
  have w1 : wrap64 (t0 - (x.f2.size : Int)) = t0 - (x.f2.size : Int) := wrap_id (by omega) (by omega)
  rw [w1]
  refine Ends.cases_ (fun _ => Ends.now (.inl (by omega))) (fun hn1 => ?_)
  obtain ⟨t1, e1⟩ : ∃ t, t = t0 - (x.f2.size : Int) := ⟨_, rfl⟩
  rw [← e1]
  rw [← e1] at hn1
  have g2 : x.f5.size ≤ 9223372036854775807 := (g.2.2.2.2.2)
  have w2 : wrap64 (t1 - (x.f5.size : Int)) = t1 - (x.f5.size : Int) := wrap_id (by omega) (by omega)
  rw [w2]
  refine Ends.cases_ (fun _ => Ends.now (.inl (by omega))) (fun hn2 => ?_)
  obtain ⟨t2, e2⟩ : ∃ t, t = t1 - (x.f5.size : Int) := ⟨_, rfl⟩
  rw [← e2]
  rw [← e2] at hn2
  exact Ends.now (.inr ⟨by omega, ⟨(show (x.f1).size ≤ 1048576 by omega), (show (x.f2).size ≤ 1048576 by omega), (show (x.f5).size ≤ 1048576 by omega)⟩⟩)
theorem to_Ask (x : S122) (h : Sm_Ask (cv_Ask x)) : Ends (fun k => laws_toAsk.f (x.f0) (x.f1) (x.f2) (x.f3) (x.f4) (x.f5)) (fun b => b = ((cv_Ask x).f0, (cv_Ask x).f1, (cv_Ask x).f2, (cv_Ask x).f3, (cv_Ask x).f4, (cv_Ask x).f5)) := by
  unfold laws_toAsk.f
  exact Ends.now rfl
theorem eq_Ask (y : S90) (h : Sm_Ask y) : Ev (fun k => laws_eqAsk.f (y.f0) (y.f1) (y.f2) (y.f3) (y.f4) (y.f5) (y.f0) (y.f1) (y.f2) (y.f3) (y.f4) (y.f5)) true := by
  unfold laws_eqAsk.f
  repeat (first | exact Ev_now fun _ => rfl | refine Ev_pos rfl ?_ | refine Ev_pos ⟨rfl, rfl, rfl, rfl, rfl, rfl⟩ ?_ | refine Ev_neg (by simp) ?_ | exact Ev_now fun _ => by simp)
def Sm_Result (y : S77) : Prop := SmS y.f1 ∧ SmL SmS y.f4
def cv_Result (x : S74) : S77 := ⟨x.f0, x.f1, x.f2, x.f3, x.f4⟩
theorem sz_Result (x : S74) (g : good74 x) (a : Int) (h0 : 0 ≤ a) (h1 : a ≤ 1048576) : Ends (fun k => laws_szResult.f k (x.f0) (x.f1) (x.f2) (x.f3) (x.f4) a) (fun t => t < 0 ∨ (t ≤ a ∧ Sm_Result (cv_Result x))) := by
  unfold laws_szResult.f
  have g0 : x.f1.size ≤ 9223372036854775807 := (g.2.1)
  have w0 : wrap64 (a - (x.f1.size : Int)) = a - (x.f1.size : Int) := wrap_id (by omega) (by omega)
  rw [w0]
  refine Ends.cases_ (fun _ => Ends.now (.inl (by omega))) (fun hn0 => ?_)
  obtain ⟨t0, e0⟩ : ∃ t, t = a - (x.f1.size : Int) := ⟨_, rfl⟩
  rw [← e0]
  rw [← e0] at hn0
  refine Ends.bind (szS_String x.f4 (g.2.2.2.2).1 (g.2.2.2.2).2 t0 (by omega) (by omega)) (fun t1 ht1 => Ends.cases_ (fun _ => Ends.now (.inl (by omega))) (fun hn1 => ?_))
  replace ht1 := ht1.resolve_left hn1
  exact Ends.now (.inr ⟨by omega, ⟨(show (x.f1).size ≤ 1048576 by omega), ht1.2⟩⟩)
theorem to_Result (x : S74) (h : Sm_Result (cv_Result x)) : Ends (fun k => laws_toResult.f k (x.f0) (x.f1) (x.f2) (x.f3) (x.f4)) (fun b => b = ((cv_Result x).f0, (cv_Result x).f1, (cv_Result x).f2, (cv_Result x).f3, (cv_Result x).f4)) := by
  unfold laws_toResult.f
  refine Ends.bind (toS_String x.f4 h.2) (fun b hb => ?_)
  subst hb
  exact Ends.now rfl
theorem eq_Result (y : S77) (h : Sm_Result y) : Ev (fun k => laws_eqResult.f k (y.f0) (y.f1) (y.f2) (y.f3) (y.f4) (y.f0) (y.f1) (y.f2) (y.f3) (y.f4)) true := by
  unfold laws_eqResult.f
  repeat (first | exact Ev_now fun _ => rfl | refine Ev_pos rfl ?_ | refine Ev_pos ⟨rfl, rfl, rfl, rfl, rfl⟩ ?_ | refine Ev_neg (by simp) ?_ | refine Ev.bind (eqS_String y.f4 h.2) ?_ | exact Ev_now fun _ => by simp)
def Sm_Job (y : S93) : Prop := SmS y.f0.f1 ∧ SmS y.f0.f2 ∧ SmS y.f0.f5 ∧ SmS y.f1.f1 ∧ SmL SmS y.f1.f4 ∧ SmL Sm_Step y.f2 ∧ SmL Sm_Sealing y.f3
def cv_Job (x : S125) : S93 := ⟨⟨x.f0.f0, x.f0.f1, x.f0.f2, x.f0.f3, x.f0.f4, x.f0.f5⟩, ⟨x.f1.f0, x.f1.f1, x.f1.f2, x.f1.f3, x.f1.f4⟩, (x.f2.map cv_Step), (x.f3.map cv_Sealing), x.f4, x.f5, x.f6⟩
theorem sz_Job (x : S125) (g : good125 x) (a : Int) (h0 : 0 ≤ a) (h1 : a ≤ 1048576) : Ends (fun k => laws_szJob.f k (x.f0.f0) (x.f0.f1) (x.f0.f2) (x.f0.f3) (x.f0.f4) (x.f0.f5) (x.f1.f0) (x.f1.f1) (x.f1.f2) (x.f1.f3) (x.f1.f4) (x.f2) (x.f3) (x.f4) (x.f5) (x.f6) a) (fun t => t < 0 ∨ (t ≤ a ∧ Sm_Job (cv_Job x))) := by
  unfold laws_szJob.f
  refine Ends.bind (sz_Ask x.f0 g.1 a (by omega) (by omega)) (fun t0 ht0 => Ends.cases_ (fun _ => Ends.now (.inl (by omega))) (fun hn0 => ?_))
  replace ht0 := ht0.resolve_left hn0
  refine Ends.bind (sz_Result x.f1 g.2.1 t0 (by omega) (by omega)) (fun t1 ht1 => Ends.cases_ (fun _ => Ends.now (.inl (by omega))) (fun hn1 => ?_))
  replace ht1 := ht1.resolve_left hn1
  refine Ends.bind (szS_Step x.f2 (g.2.2.1).1 (g.2.2.1).2 t1 (by omega) (by omega)) (fun t2 ht2 => Ends.cases_ (fun _ => Ends.now (.inl (by omega))) (fun hn2 => ?_))
  replace ht2 := ht2.resolve_left hn2
  refine Ends.bind (szS_Sealing x.f3 (g.2.2.2.1).1 (g.2.2.2.1).2 t2 (by omega) (by omega)) (fun t3 ht3 => Ends.cases_ (fun _ => Ends.now (.inl (by omega))) (fun hn3 => ?_))
  replace ht3 := ht3.resolve_left hn3
  exact Ends.now (.inr ⟨by omega, ⟨ht0.2.1, ht0.2.2.1, ht0.2.2.2, ht1.2.1, ht1.2.2, ht2.2, ht3.2⟩⟩)
theorem szS_Job (l : List (S125)) (hl : l.length ≤ 9223372036854775807) (hg : ∀ x ∈ l, good125 x) (a : Int) (h0 : 0 ≤ a) (h1 : a ≤ 1048576) : Ends (fun k => laws_szJobS.f k l a) (fun t => t < 0 ∨ (t ≤ a ∧ SmL Sm_Job (l.map cv_Job))) := by
  refine (sz_rows (F := laws_szJobS.l0) (rd := rd_T125) (el := fun k x a => laws_szJob.f k (x.f0.f0) (x.f0.f1) (x.f0.f2) (x.f0.f3) (x.f0.f4) (x.f0.f5) (x.f1.f0) (x.f1.f1) (x.f1.f2) (x.f1.f3) (x.f1.f4) (x.f2) (x.f3) (x.f4) (x.f5) (x.f6) a) (fun k l a i => by rw [laws_szJobS.l0]) (fun l i h => rdOf_at _ l i h) (Good := good125) (Sm := fun x => Sm_Job (cv_Job x)) (fun x g a h0 h1 => sz_Job x g a h0 h1) l hl hg a h0 h1).mono (fun t ht => ht.imp_right (fun ht => ⟨ht.1, ⟨by simpa using ht.2.1, ?_⟩⟩))
  intro y hy
  obtain ⟨x, hx, rfl⟩ := List.mem_map.1 hy
  exact ht.2.2 x hx
theorem to_Job (x : S125) (h : Sm_Job (cv_Job x)) : Ends (fun k => laws_toJob.f k (x.f0.f0) (x.f0.f1) (x.f0.f2) (x.f0.f3) (x.f0.f4) (x.f0.f5) (x.f1.f0) (x.f1.f1) (x.f1.f2) (x.f1.f3) (x.f1.f4) (x.f2) (x.f3) (x.f4) (x.f5) (x.f6)) (fun b => b = ((cv_Job x).f0.f0, (cv_Job x).f0.f1, (cv_Job x).f0.f2, (cv_Job x).f0.f3, (cv_Job x).f0.f4, (cv_Job x).f0.f5, (cv_Job x).f1.f0, (cv_Job x).f1.f1, (cv_Job x).f1.f2, (cv_Job x).f1.f3, (cv_Job x).f1.f4, (cv_Job x).f2, (cv_Job x).f3, (cv_Job x).f4, (cv_Job x).f5, (cv_Job x).f6)) := by
  unfold laws_toJob.f
  refine Ends.bind (to_Ask x.f0 ⟨h.1, h.2.1, h.2.2.1⟩) (fun b hb => ?_)
  subst hb
  refine Ends.bind (to_Result x.f1 ⟨h.2.2.2.1, h.2.2.2.2.1⟩) (fun b hb => ?_)
  subst hb
  refine Ends.bind (toS_Step x.f2 h.2.2.2.2.2.1) (fun b hb => ?_)
  subst hb
  refine Ends.bind (toS_Sealing x.f3 h.2.2.2.2.2.2) (fun b hb => ?_)
  subst hb
  exact Ends.now rfl
theorem toS_Job (l : List (S125)) (h : SmL Sm_Job (l.map cv_Job)) : Ends (fun k => laws_toJobS.f k l) (fun b => b = l.map cv_Job) := by
  have hl : l.length ≤ 1048576 := by simpa using h.1
  unfold laws_toJobS.f
  refine Ends.pos (by omega) (Ends.pos (by omega) (Ends.of ?_))
  exact to_rows (F := laws_toJobS.l0) (rd := rd_T125) (el := fun k x => laws_toJob.f k (x.f0.f0) (x.f0.f1) (x.f0.f2) (x.f0.f3) (x.f0.f4) (x.f0.f5) (x.f1.f0) (x.f1.f1) (x.f1.f2) (x.f1.f3) (x.f1.f4) (x.f2) (x.f3) (x.f4) (x.f5) (x.f6)) (mk := fun b => (⟨⟨b.1, b.2.1, b.2.2.1, b.2.2.2.1, b.2.2.2.2.1, b.2.2.2.2.2.1⟩, ⟨b.2.2.2.2.2.2.1, b.2.2.2.2.2.2.2.1, b.2.2.2.2.2.2.2.2.1, b.2.2.2.2.2.2.2.2.2.1, b.2.2.2.2.2.2.2.2.2.2.1⟩, b.2.2.2.2.2.2.2.2.2.2.2.1, b.2.2.2.2.2.2.2.2.2.2.2.2.1, b.2.2.2.2.2.2.2.2.2.2.2.2.2.1, b.2.2.2.2.2.2.2.2.2.2.2.2.2.2.1, b.2.2.2.2.2.2.2.2.2.2.2.2.2.2.2⟩ : S93)) (fun k l m i => by rw [laws_toJobS.l0]) (fun l i h => rdOf_at _ l i h) cv_Job l hl (fun x hx => (to_Job x (h.2 _ (List.mem_map_of_mem hx))).mono (fun b hb => by subst hb; rfl)) _ (by simp)
theorem eq_Job (y : S93) (h : Sm_Job y) : Ev (fun k => laws_eqJob.f k (y.f0.f0) (y.f0.f1) (y.f0.f2) (y.f0.f3) (y.f0.f4) (y.f0.f5) (y.f1.f0) (y.f1.f1) (y.f1.f2) (y.f1.f3) (y.f1.f4) (y.f2) (y.f3) (y.f4) (y.f5) (y.f6) (y.f0.f0) (y.f0.f1) (y.f0.f2) (y.f0.f3) (y.f0.f4) (y.f0.f5) (y.f1.f0) (y.f1.f1) (y.f1.f2) (y.f1.f3) (y.f1.f4) (y.f2) (y.f3) (y.f4) (y.f5) (y.f6)) true := by
  unfold laws_eqJob.f
  repeat (first | exact Ev_now fun _ => rfl | refine Ev_pos rfl ?_ | refine Ev_pos ⟨rfl, rfl, rfl, rfl, rfl, rfl, rfl⟩ ?_ | refine Ev_neg (by simp) ?_ | refine Ev.bind (eq_Ask y.f0 ⟨h.1, h.2.1, h.2.2.1⟩) ?_ | refine Ev.bind (eq_Result y.f1 ⟨h.2.2.2.1, h.2.2.2.2.1⟩) ?_ | refine Ev.bind (eqS_Step y.f2 h.2.2.2.2.2.1) ?_ | refine Ev.bind (eqS_Sealing y.f3 h.2.2.2.2.2.2) ?_ | exact Ev_now fun _ => by simp)
theorem eqS_Job (l : List (S93)) (h : SmL Sm_Job l) : Ev (fun k => laws_eqJobS.f k l l) true := by
  unfold laws_eqJobS.f
  exact Ev_pos rfl (eq_rows (F := laws_eqJobS.l0) (rd := rd_T93) (el := fun k x y => laws_eqJob.f k (x.f0.f0) (x.f0.f1) (x.f0.f2) (x.f0.f3) (x.f0.f4) (x.f0.f5) (x.f1.f0) (x.f1.f1) (x.f1.f2) (x.f1.f3) (x.f1.f4) (x.f2) (x.f3) (x.f4) (x.f5) (x.f6) (y.f0.f0) (y.f0.f1) (y.f0.f2) (y.f0.f3) (y.f0.f4) (y.f0.f5) (y.f1.f0) (y.f1.f1) (y.f1.f2) (y.f1.f3) (y.f1.f4) (y.f2) (y.f3) (y.f4) (y.f5) (y.f6)) (fun k l m i => by rw [laws_eqJobS.l0]) (fun l i h => rdOf_at _ l i h) l h.1 (fun x hx => eq_Job x (h.2 x hx)))
theorem el_Job (e : S93) (h : Sm_Job e) (a : Int) (h0 : 0 ≤ a) (h1 : a + 7340045 ≤ 4611686018427387904) : Ends (fun k => laws_markJobS.el k e a) (fun r => a ≤ r.1 ∧ r.1 ≤ a + 7340045 ∧ Sm_Job r.2) := by
  unfold laws_markJobS.el
  have W : ∀ z : Int, 0 ≤ z → z ≤ 4611686018427400000 → wrap64 (z + 1) = z + 1 := fun z _ _ => wrap_id (by omega) (by omega)
  repeat (first | (simp (disch := omega) only [W]) | (refine Ends.bind (mark_text _ (by omega) (by omega)) (fun t ht => ?_)) | (refine Ends.bind (markS_String e.f1.f4 h.2.2.2.2.1 _ (by omega) (by omega)) (fun r hr => ?_); obtain ⟨c1, c2, _, _⟩ := hr) | (refine Ends.bind (markS_Step e.f2 h.2.2.2.2.2.1 _ (by omega) (by omega)) (fun r hr => ?_); obtain ⟨c1, c2, _, _⟩ := hr) | (refine Ends.bind (markS_Sealing e.f3 h.2.2.2.2.2.2 _ (by omega) (by omega)) (fun r hr => ?_); obtain ⟨c1, c2, _, _⟩ := hr))
  refine Ends.now ?_
  refine ⟨by omega, by omega, ?_⟩
  unfold Sm_Job
  refine ⟨?_, ?_, ?_, ?_, ?_, ?_, ?_⟩ <;> assumption
theorem markS_Job (l : List (S93)) (hl : SmL Sm_Job l) (a : Int) (h0 : 0 ≤ a) (h1 : a + 7696595025920 ≤ 4611686018427387904) : Ends (fun k => laws_markJobS.f k l a) (fun r => a ≤ r.1 ∧ r.1 ≤ a + 7696595025920 ∧ r.2.length = l.length ∧ SmL Sm_Job r.2) := by
  refine mark_rows (F := laws_markJobS.l0) 7340045 (by omega) (by omega) Sm_Job (fun k l a i hi => by rw [laws_markJobS.l0, if_neg hi]) ?_ l hl a h0 (by omega)
  intro l a i hi hs h0 h1 Post hk
  have hb := hs.1
  have wi : wrap64 ((i : Int) + 1) = (i : Int) + 1 := wrap_id (by omega) (by omega)
  refine Ends.step (fun k => by rw [laws_markJobS.l0]) (Ends.pos (by omega) (Ends.pos (by omega) ?_))
  rw [show rd_T93 l (i : Int) = l[i] from rdOf_at _ l i hi, wi]
  refine Ends.bind (el_Job l[i] (hs.2 _ (List.getElem_mem hi)) a h0 (by omega)) (fun r hr => hk _ _ (by simp) (SmL_set hs _ hr.2.2) hr.1 hr.2.1)
def Sm_Geo (y : S45) : Prop := True
def cv_Geo (x : S34) : S45 := ⟨x.f0, x.f1, x.f2, x.f3⟩
theorem to_Geo (x : S34) (h : Sm_Geo (cv_Geo x)) : Ends (fun k => laws_toGeo.f (x.f0) (x.f1) (x.f2) (x.f3)) (fun b => b = ((cv_Geo x).f0, (cv_Geo x).f1, (cv_Geo x).f2, (cv_Geo x).f3)) := by
  unfold laws_toGeo.f
  exact Ends.now rfl
theorem eq_Geo (y : S45) (h : Sm_Geo y) : Ev (fun k => laws_eqGeo.f (y.f0) (y.f1) (y.f2) (y.f3) (y.f0) (y.f1) (y.f2) (y.f3)) true := by
  unfold laws_eqGeo.f
  repeat (first | exact Ev_now fun _ => rfl | refine Ev_pos rfl ?_ | refine Ev_pos ⟨rfl, rfl, rfl, rfl⟩ ?_ | refine Ev_neg (by simp) ?_ | exact Ev_now fun _ => by simp)
def Sm_Memory (y : S48) : Prop := SmS y.f0 ∧ SmL Sm_Cell y.f1
def cv_Memory (x : S37) : S48 := ⟨x.f0, (x.f1.map cv_Cell)⟩
theorem sz_Memory (x : S37) (g : good37 x) (a : Int) (h0 : 0 ≤ a) (h1 : a ≤ 1048576) : Ends (fun k => laws_szMemory.f k (x.f0) (x.f1) a) (fun t => t < 0 ∨ (t ≤ a ∧ Sm_Memory (cv_Memory x))) := by
  unfold laws_szMemory.f
  have g0 : x.f0.size ≤ 9223372036854775807 := (g.1)
  have w0 : wrap64 (a - (x.f0.size : Int)) = a - (x.f0.size : Int) := wrap_id (by omega) (by omega)
  rw [w0]
  refine Ends.cases_ (fun _ => Ends.now (.inl (by omega))) (fun hn0 => ?_)
  obtain ⟨t0, e0⟩ : ∃ t, t = a - (x.f0.size : Int) := ⟨_, rfl⟩
  rw [← e0]
  rw [← e0] at hn0
  refine Ends.bind (szS_Cell x.f1 (g.2).1 (g.2).2 t0 (by omega) (by omega)) (fun t1 ht1 => Ends.cases_ (fun _ => Ends.now (.inl (by omega))) (fun hn1 => ?_))
  replace ht1 := ht1.resolve_left hn1
  exact Ends.now (.inr ⟨by omega, ⟨(show (x.f0).size ≤ 1048576 by omega), ht1.2⟩⟩)
theorem to_Memory (x : S37) (h : Sm_Memory (cv_Memory x)) : Ends (fun k => laws_toMemory.f k (x.f0) (x.f1)) (fun b => b = ((cv_Memory x).f0, (cv_Memory x).f1)) := by
  unfold laws_toMemory.f
  refine Ends.bind (toS_Cell x.f1 h.2) (fun b hb => ?_)
  subst hb
  exact Ends.now rfl
theorem eq_Memory (y : S48) (h : Sm_Memory y) : Ev (fun k => laws_eqMemory.f k (y.f0) (y.f1) (y.f0) (y.f1)) true := by
  unfold laws_eqMemory.f
  repeat (first | exact Ev_now fun _ => rfl | refine Ev_pos rfl ?_ | refine Ev_pos ⟨rfl, rfl⟩ ?_ | refine Ev_neg (by simp) ?_ | refine Ev.bind (eqS_Cell y.f1 h.2) ?_ | exact Ev_now fun _ => by simp)
def Sm_System (y : S52) : Prop := SmS y.f1.f0 ∧ SmL Sm_Cell y.f1.f1 ∧ SmL Sm_Job y.f2 ∧ SmL Sm_Sealing y.f3
def cv_System (x : S41) : S52 := ⟨⟨x.f0.f0, x.f0.f1, x.f0.f2, x.f0.f3⟩, ⟨x.f1.f0, (x.f1.f1.map cv_Cell)⟩, (x.f2.map cv_Job), (x.f3.map cv_Sealing)⟩
theorem sz_System (x : S41) (g : good41 x) (a : Int) (h0 : 0 ≤ a) (h1 : a ≤ 1048576) : Ends (fun k => laws_szSystem.f k (x.f0.f0) (x.f0.f1) (x.f0.f2) (x.f0.f3) (x.f1.f0) (x.f1.f1) (x.f2) (x.f3) a) (fun t => t < 0 ∨ (t ≤ a ∧ Sm_System (cv_System x))) := by
  unfold laws_szSystem.f
  refine Ends.bind (sz_Memory x.f1 g.2.1 a (by omega) (by omega)) (fun t0 ht0 => Ends.cases_ (fun _ => Ends.now (.inl (by omega))) (fun hn0 => ?_))
  replace ht0 := ht0.resolve_left hn0
  refine Ends.bind (szS_Job x.f2 (g.2.2.1).1 (g.2.2.1).2 t0 (by omega) (by omega)) (fun t1 ht1 => Ends.cases_ (fun _ => Ends.now (.inl (by omega))) (fun hn1 => ?_))
  replace ht1 := ht1.resolve_left hn1
  refine Ends.bind (szS_Sealing x.f3 (g.2.2.2).1 (g.2.2.2).2 t1 (by omega) (by omega)) (fun t2 ht2 => Ends.cases_ (fun _ => Ends.now (.inl (by omega))) (fun hn2 => ?_))
  replace ht2 := ht2.resolve_left hn2
  exact Ends.now (.inr ⟨by omega, ⟨ht0.2.1, ht0.2.2, ht1.2, ht2.2⟩⟩)
theorem to_System (x : S41) (h : Sm_System (cv_System x)) : Ends (fun k => laws_toSystem.f k (x.f0.f0) (x.f0.f1) (x.f0.f2) (x.f0.f3) (x.f1.f0) (x.f1.f1) (x.f2) (x.f3)) (fun b => b = ((cv_System x).f0.f0, (cv_System x).f0.f1, (cv_System x).f0.f2, (cv_System x).f0.f3, (cv_System x).f1.f0, (cv_System x).f1.f1, (cv_System x).f2, (cv_System x).f3)) := by
  unfold laws_toSystem.f
  refine Ends.bind (to_Geo x.f0 trivial) (fun b hb => ?_)
  subst hb
  refine Ends.bind (to_Memory x.f1 ⟨h.1, h.2.1⟩) (fun b hb => ?_)
  subst hb
  refine Ends.bind (toS_Job x.f2 h.2.2.1) (fun b hb => ?_)
  subst hb
  refine Ends.bind (toS_Sealing x.f3 h.2.2.2) (fun b hb => ?_)
  subst hb
  exact Ends.now rfl
theorem eq_System (y : S52) (h : Sm_System y) : Ev (fun k => laws_eqSystem.f k (y.f0.f0) (y.f0.f1) (y.f0.f2) (y.f0.f3) (y.f1.f0) (y.f1.f1) (y.f2) (y.f3) (y.f0.f0) (y.f0.f1) (y.f0.f2) (y.f0.f3) (y.f1.f0) (y.f1.f1) (y.f2) (y.f3)) true := by
  unfold laws_eqSystem.f
  repeat (first | exact Ev_now fun _ => rfl | refine Ev_pos rfl ?_ | refine Ev_pos ⟨rfl, rfl, rfl, rfl⟩ ?_ | refine Ev_neg (by simp) ?_ | refine Ev.bind (eq_Geo y.f0 trivial) ?_ | refine Ev.bind (eq_Memory y.f1 ⟨h.1, h.2.1⟩) ?_ | refine Ev.bind (eqS_Job y.f2 h.2.2.1) ?_ | refine Ev.bind (eqS_Sealing y.f3 h.2.2.2) ?_ | exact Ev_now fun _ => by simp)
theorem mark_Memory (y : S48) (h : Sm_Memory y) (a : Int) (h0 : 0 ≤ a) (h1 : a + 3145728 ≤ 4611686018427387904) : Ends (fun k => laws_markMemory.f k (y.f0) (y.f1) a) (fun r => a ≤ r.1 ∧ r.1 ≤ a + 3145728) := by
  unfold laws_markMemory.f
  repeat (first | (refine Ends.bind (markS_Cell y.f1 h.2 _ (by omega) (by omega)) (fun r hr => ?_); obtain ⟨c1, c2, _, _⟩ := hr))
  refine Ends.now ?_
  refine ⟨by omega, by omega⟩
theorem mark_System (y : S52) (h : Sm_System y) (a : Int) (h0 : 0 ≤ a) (h1 : a + 7696601317376 ≤ 4611686018427387904) : Ends (fun k => laws_markSystem.f k (y.f0.f0) (y.f0.f1) (y.f0.f2) (y.f0.f3) (y.f1.f0) (y.f1.f1) (y.f2) (y.f3) a) (fun r => a ≤ r.1 ∧ r.1 ≤ a + 7696601317376) := by
  unfold laws_markSystem.f
  repeat (first | (refine Ends.bind (markS_Cell y.f1.f1 h.2.1 _ (by omega) (by omega)) (fun r hr => ?_); obtain ⟨c1, c2, _, _⟩ := hr) | (refine Ends.bind (markS_Job y.f2 h.2.2.1 _ (by omega) (by omega)) (fun r hr => ?_); obtain ⟨c1, c2, _, _⟩ := hr) | (refine Ends.bind (markS_Sealing y.f3 h.2.2.2 _ (by omega) (by omega)) (fun r hr => ?_); obtain ⟨c1, c2, _, _⟩ := hr) | (refine Ends.bind (mark_Memory y.f1 ⟨h.1, h.2.1⟩ _ (by omega) (by omega)) (fun r hr => ?_); obtain ⟨c1, c2⟩ := hr))
  refine Ends.now ?_
  refine ⟨by omega, by omega⟩

/-! ### IdleIn: the numbers of the jobs that are not busy -/
def idle (js : List S93) (i : Nat) : List Int := (List.range i).flatMap (fun j : Nat => if (rd_T93 js (j : Int)).f5 = true then [] else [(j : Int)])
theorem idle_succ (js : List S93) (i : Nat) : idle js (i + 1) = idle js i ++ (if (rd_T93 js (i : Int)).f5 = true then [] else [(i : Int)]) := by
  unfold idle
  rw [List.range_succ, List.flatMap_append]
  simp
theorem idle_len (js : List S93) : ∀ i, (idle js i).length ≤ i
  | 0 => by simp [idle]
  | i + 1 => by
    have h := idle_len js i
    rw [idle_succ, List.length_append]
    split
    · simp; omega
    · simp; omega
theorem spec_idle (js : List S93) (hl : js.length ≤ 1048576) (a b c d : Int) (s : ByteArray) (cs) (ss) : Ev (fun k => spec_IdleIn.f k a b c d s cs js ss) (idle js js.length) := by
  unfold spec_IdleIn.f
  have h := Ends.rounds (G := fun (s_ : List Int × Int) k => spec_IdleIn.l0 k s_.1 s_.2 a b c d s cs js ss) (Post := fun r => r = idle js js.length) js.length (fun i s_ => s_.2 = (i : Int) ∧ s_.1 = idle js i) ?_ ?_ ([], 0) ⟨rfl, rfl⟩
  · obtain ⟨r, e, rfl⟩ := h
    exact e
  · rintro ⟨x3, x4⟩ ⟨rfl, rfl⟩
    exact Ends.step (fun k => by rw [spec_IdleIn.l0]) (Ends.neg (by omega) (Ends.now rfl))
  · rintro i ⟨x3, x4⟩ hi ⟨rfl, rfl⟩ ih
    dsimp only at ih ⊢
    have hn := idle_len js i
    have e := idle_succ js i
    refine Ends.step (fun k => by rw [spec_IdleIn.l0]) (Ends.pos (by omega) (Ends.pos (by omega) ?_))
    rw [wrap_id (n := (i : Int) + 1) (by omega) (by omega)]
    refine Ends.cases_ (fun hb => ?_) (fun hb => Ends.pos (by omega) ?_)
    · rw [if_pos hb, List.append_nil] at e
      exact ih (_, ((i : Int) + 1)) ⟨by push_cast; rfl, e.symm⟩
    · rw [if_neg hb] at e
      exact ih (_, ((i : Int) + 1)) ⟨by push_cast; rfl, e.symm⟩
theorem impl_idle (js : List S93) (hl : js.length ≤ 1048576) (a b c d : Int) (s : ByteArray) (cs) (ss) : Ev (fun k => impl_IdleIn.f k a b c d s cs js ss) (idle js js.length) := by
  unfold impl_IdleIn.f
  have h := Ends.rounds (G := fun (s_ : List Int × Int) k => impl_IdleIn.l0 k s_.1 js (js.length : Int) s_.2) (Post := fun r => r = idle js js.length) js.length (fun i s_ => s_.2 = (i : Int) ∧ s_.1 = idle js i) ?_ ?_ ([], 0) ⟨rfl, rfl⟩
  · obtain ⟨r, e, rfl⟩ := h
    exact e
  · rintro ⟨x3, x4⟩ ⟨rfl, rfl⟩
    exact Ends.step (fun k => by rw [impl_IdleIn.l0]) (Ends.neg (by omega) (Ends.now rfl))
  · rintro i ⟨x3, x4⟩ hi ⟨rfl, rfl⟩ ih
    dsimp only at ih ⊢
    have hn := idle_len js i
    have e := idle_succ js i
    refine Ends.step (fun k => by rw [impl_IdleIn.l0]) (Ends.pos (by omega) (Ends.pos (by omega) (Ends.pos (by omega) ?_)))
    rw [wrap_id (n := (i : Int) + 1) (by omega) (by omega)]
    refine Ends.cases_ (fun hb => ?_) (fun hb => Ends.pos (by omega) ?_)
    · rw [if_pos hb, List.append_nil] at e
      exact ih (_, ((i : Int) + 1)) ⟨by push_cast; rfl, e.symm⟩
    · rw [if_neg hb] at e
      exact ih (_, ((i : Int) + 1)) ⟨by push_cast; rfl, e.symm⟩

theorem pure : ∀ (x0 : S41), good41 x0 → ∃ k, laws_FnExactIdleIn.f k x0.f0.f0 x0.f0.f1 x0.f0.f2 x0.f0.f3 x0.f1.f0 x0.f1.f1 x0.f2 x0.f3 = some true := by
  intro x0 g
  refine Ev.rounds (g := fun k => laws_FnExactIdleIn.f k x0.f0.f0 x0.f0.f1 x0.f0.f2 x0.f0.f3 x0.f1.f0 x0.f1.f1 x0.f2 x0.f3) ?_
  obtain ⟨n, hn, hq⟩ := sz_System x0 g 1048576 (by omega) (by omega)
  unfold laws_FnExactIdleIn.f
  refine Ev.bind hn ?_
  by_cases c : n < 0
  · exact Ev_pos c (Ev_now fun _ => rfl)
  refine Ev_neg c ?_
  have hs := (hq.resolve_left c).2
  obtain ⟨t, ht, rfl⟩ := to_System x0 hs
  refine Ev.bind ht ?_
  have hs0 := hs
  unfold Sm_System at hs0
  have hl : (cv_System x0).f2.length ≤ 1048576 := hs0.2.2.1.1
  have hi := idle_len (cv_System x0).f2 (cv_System x0).f2.length
  refine Ev.bind (spec_idle (cv_System x0).f2 hl _ _ _ _ _ _ _) (Ev.bind (impl_idle (cv_System x0).f2 hl _ _ _ _ _ _ _) ?_)
  refine Ev.bind (eqS_Int _ (by omega)) (Ev.bind (eq_System (cv_System x0) hs) ?_)
  obtain ⟨m, hm, hm1, hm2⟩ := mark_System (cv_System x0) hs 1 (by omega) (by omega)
  refine Ev.bind hm (Ev.bind (markS_Int _ (by omega)) (Ev.bind (held_Int _ (by omega)) ?_))
  exact Ev_pos ⟨rfl, rfl, by omega, by omega, rfl⟩ (Ev_now fun _ => rfl)

end Go.Proofs.Ytggfonljcbmjmaa.PFnExactIdleIn
