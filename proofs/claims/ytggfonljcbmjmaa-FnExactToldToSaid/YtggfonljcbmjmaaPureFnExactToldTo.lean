import Derived.Lib.LazyBuf
import Derived.Test.YtggfonljcbmjmaaBFnExactToldTo
import Derived.Test.YtggfonljcbmjmaaOFnExactToldTo
import Derived.Test.YtggfonljcbmjmaaPFnExactToldTox7
namespace Go.Proofs.Ytggfonljcbmjmaa.PFnExactToldTo
open Go.RowKit Go.Proofs.YtggfonljcbmjmaaW.PrintWords Go.Proofs.YtggfonljcbmjmaaW.PrintLast Go.Proofs.YtggfonljcbmjmaaW.PrintMore
set_option linter.unusedVariables false
set_option linter.unusedSimpArgs false
set_option linter.unusedSectionVars false

/-! ### numbers, bytes, rounds -/
theorem wf_i64 {n : Int} (h : (Lit.int .i64 n).wf = true) : -9223372036854775808 ≤ n ∧ n ≤ 9223372036854775807 := by
  simpa [Lit.wf, IntKind.min, IntKind.max, IntKind.signed, IntKind.bits] using h
theorem wrap_id {n : Int} (h0 : -9223372036854775808 ≤ n) (h1 : n ≤ 9223372036854775807) : wrap64 n = n := by unfold wrap64; omega
/-- A string by its bytes. -/
def Sb (l : List UInt8) : ByteArray := ⟨l.toArray⟩
theorem Sb_toList (l : List UInt8) : (Sb l).toList = l := by rw [Lib.toList_data]; rfl
theorem Sb_size (l : List UInt8) : (Sb l).size = l.length := by simp [Sb, ByteArray.size]
theorem Sb_append (a b : List UInt8) : Sb a ++ Sb b = Sb (a ++ b) := by
  apply ByteArray.ext
  simp [Sb]
theorem Sb_of (s : ByteArray) : s = Sb s.data.toList := by
  cases s with
  | mk d => simp [Sb]
theorem toList_inj {a b : ByteArray} : a.toList = b.toList ↔ a = b := by
  constructor
  · intro h
    rw [Lib.toList_data, Lib.toList_data] at h
    cases a; cases b
    congr 1
    exact Array.toList_inj.1 h
  · rintro rfl; rfl
theorem toList_nil {a : ByteArray} : a.toList = ([] : List UInt8) ↔ a = Sb [] := by
  have h := @toList_inj a (Sb [])
  rw [Sb_toList] at h
  exact h
theorem beq_toList (a b : ByteArray) : (a.toList == b.toList) = decide (a = b) := by
  rw [Bool.eq_iff_iff, beq_iff_eq, decide_eq_true_iff]
  exact toList_inj
theorem Ev_now {α : Type} {g : Nat → Option α} {r : α} (h : ∀ k, g k = some r) : Ev g r := ⟨0, fun k _ => h k⟩
theorem Ev_pos {α : Type} {c : Prop} {i : Decidable c} {f g : Nat → Option α} {r : α} (hc : c) (h : Ev f r) : Ev (fun k => @ite _ c i (f k) (g k)) r := by
  simp only [if_pos hc]; exact h
theorem Ev_neg {α : Type} {c : Prop} {i : Decidable c} {f g : Nat → Option α} {r : α} (hc : ¬ c) (h : Ev g r) : Ev (fun k => @ite _ c i (f k) (g k)) r := by
  simp only [if_neg hc]; exact h
theorem Ev_const {α β : Type} {x : Option α} {a : α} {f : Nat → α → Option β} {r : β} (hx : x = some a) (h : Ev (fun k => f k a) r) : Ev (fun k => x.bind (f k)) r := by
  subst hx; exact h
theorem Ev_ite {α : Type} {c : Prop} {i : Decidable c} {f g : Nat → Option α} {a b : α} (h : c → Ev f a) (h' : ¬ c → Ev g b) : Ev (fun k => @ite _ c i (f k) (g k)) (if c then a else b) := by
  by_cases hc : c
  · simp only [if_pos hc]; exact h hc
  · simp only [if_neg hc]; exact h' hc
theorem Ev_eq {α : Type} {g : Nat → Option α} {r r' : α} (h : Ev g r) (e : r = r') : Ev g r' := e ▸ h
theorem bt_Sb (l : List UInt8) (i : Nat) (h : i < l.length) : bt (Sb l) i = (l[i].toNat : Int) := by
  unfold bt
  rw [dif_pos (by rw [Sb_size]; simpa using h)]
  rfl
theorem bt_at' (s : ByteArray) (i : Nat) (h : i < s.size) : bt s i = ((s.data.toList[i]'(by simpa using h)).toNat : Int) := by
  unfold bt
  rw [dif_pos (by simpa using h)]
  rfl

/-! ### rounds over rows: what ends, and how -/
/-- 'ends in a result of which Post holds' -/
def Ends {ρ : Type} (g : Nat → Option ρ) (Post : ρ → Prop) : Prop := ∃ r, Ev g r ∧ Post r
theorem Ends.mono {ρ : Type} {g : Nat → Option ρ} {P Q : ρ → Prop} (h : Ends g P) (hq : ∀ r, P r → Q r) : Ends g Q := by
  obtain ⟨r, e, p⟩ := h
  exact ⟨r, e, hq r p⟩
theorem Ends.now {ρ : Type} {r : ρ} {P : ρ → Prop} (h : P r) : Ends (fun _ => some r) P := ⟨r, Ev_now fun _ => rfl, h⟩
theorem Ends.of {ρ : Type} {g : Nat → Option ρ} {r : ρ} (h : Ev g r) : Ends g (fun x => x = r) := ⟨r, h, rfl⟩
theorem Ends.bind {ρ σ : Type} {g : Nat → Option ρ} {f : Nat → ρ → Option σ} {P : ρ → Prop} {Q : σ → Prop} (h : Ends g P) (k : ∀ r, P r → Ends (fun n => f n r) Q) : Ends (fun n => (g n).bind (f n)) Q := by
  obtain ⟨r, e, p⟩ := h
  obtain ⟨s, e', q⟩ := k r p
  exact ⟨s, Ev.bind e e', q⟩
theorem Ends.cases_ {ρ : Type} {c : Prop} {i : Decidable c} {f g : Nat → Option ρ} {P : ρ → Prop} (h : c → Ends f P) (h' : ¬ c → Ends g P) : Ends (fun k => @ite _ c i (f k) (g k)) P := by
  by_cases hc : c
  · simp only [if_pos hc]; exact h hc
  · simp only [if_neg hc]; exact h' hc
theorem Ends.pos {ρ : Type} {c : Prop} {i : Decidable c} {f g : Nat → Option ρ} {P : ρ → Prop} (hc : c) (h : Ends f P) : Ends (fun k => @ite _ c i (f k) (g k)) P := by
  simp only [if_pos hc]; exact h
theorem Ends.neg {ρ : Type} {c : Prop} {i : Decidable c} {f g : Nat → Option ρ} {P : ρ → Prop} (hc : ¬ c) (h : Ends g P) : Ends (fun k => @ite _ c i (f k) (g k)) P := by
  simp only [if_neg hc]; exact h
theorem Ends.step {ρ : Type} {g f : Nat → Option ρ} {P : ρ → Prop} (h : ∀ k, g (k + 1) = f k) (k : Ends f P) : Ends g P := by
  obtain ⟨r, e, p⟩ := k
  exact ⟨r, Ev.step h e, p⟩
theorem rdOf_at {α : Type} (z : α) (l : List α) (i : Nat) (h : i < l.length) : l.getD ((i : Int)).toNat z = l[i] := by
  rw [show ((i : Int)).toNat = i from rfl, List.getD_eq_getElem?_getD, List.getElem?_eq_getElem h]
  rfl
/-- Rounds over a row by its index: what holds at 0 holds at the end. -/
theorem Ends.rounds {σ ρ : Type} {G : σ → Nat → Option ρ} {Post : ρ → Prop} (n : Nat) (Inv : Nat → σ → Prop) (hend : ∀ s, Inv n s → Ends (G s) Post)
    (hstep : ∀ i s, i < n → Inv i s → (∀ s', Inv (i + 1) s' → Ends (G s') Post) → Ends (G s) Post) : ∀ s, Inv 0 s → Ends (G s) Post := by
  have main : ∀ d i, i + d = n → ∀ s, Inv i s → Ends (G s) Post := by
    intro d
    induction d with
    | zero => intro i hi s hs; exact hend s (by have : i = n := by omega
                                                rw [← this]; exact hs)
    | succ d ih => intro i hi s hs; exact hstep i s (by omega) hs (fun s' hs' => ih (i + 1) (by omega) s' hs')
  exact fun s hs => main n 0 (by omega) s hs
def SmS (s : ByteArray) : Prop := s.size ≤ 1048576
def SmL {α : Type} (P : α → Prop) (l : List α) : Prop := l.length ≤ 1048576 ∧ ∀ x ∈ l, P x
section
variable {α β : Type}
/-- Sizes: what is left shrinks. -/
theorem sz_rows {F : Nat → List α → Int → Int → Option Int} {rd : List α → Int → α} {el : Nat → α → Int → Option Int}
    (hF : ∀ k l a i, F (k + 1) l a i = if i < (l.length : Int) then (if 0 ≤ i then ((el k (rd l i) a).bind fun t => if t < 0 then some (-1) else F k l t (wrap64 (i + 1))) else none) else some a)
    (hrd : ∀ l (i : Nat) (h : i < l.length), rd l (i : Int) = l[i]) {Good : α → Prop} {Sm : α → Prop}
    (hel : ∀ x, Good x → ∀ a, 0 ≤ a → a ≤ 1048576 → Ends (fun k => el k x a) (fun t => t < 0 ∨ (t ≤ a ∧ Sm x)))
    (l : List α) (hl : l.length ≤ 9223372036854775807) (hg : ∀ x ∈ l, Good x) (a : Int) (h0 : 0 ≤ a) (h1 : a ≤ 1048576) :
    Ends (fun k => if wrap64 (a - (l.length : Int)) < 0 then some (-1) else F k l (wrap64 (a - (l.length : Int))) 0) (fun t => t < 0 ∨ (t ≤ a ∧ SmL Sm l)) := by
  have e : wrap64 (a - (l.length : Int)) = a - (l.length : Int) := wrap_id (by omega) (by omega)
  rw [e]
  refine Ends.cases_ (fun _ => Ends.now (.inl (by omega))) (fun hn => ?_)
  have hs : l.length ≤ 1048576 := by omega
  refine Ends.rounds (G := fun (s : Int × Int) k => F k l s.1 s.2) (Post := fun t => t < 0 ∨ (t ≤ a ∧ SmL Sm l)) l.length
    (fun i s => s.2 = (i : Int) ∧ 0 ≤ s.1 ∧ s.1 ≤ a ∧ ∀ j (h : j < l.length), j < i → Sm l[j]) ?_ ?_ (a - (l.length : Int), 0) ⟨rfl, by dsimp only; omega, by dsimp only; omega, fun _ _ h => by omega⟩
  · rintro ⟨x1, x5⟩ ⟨rfl, g0, g1, g2⟩
    dsimp only at g0 g1 ⊢
    refine Ends.step (fun k => by rw [hF]) (Ends.neg (by omega) (Ends.now (.inr ⟨g1, hs, fun x hx => ?_⟩)))
    obtain ⟨j, hj, rfl⟩ := List.getElem_of_mem hx
    exact g2 j hj hj
  · rintro i ⟨x1, x5⟩ hi ⟨rfl, g0, g1, g2⟩ ih
    dsimp only at g0 g1 ih ⊢
    refine Ends.step (fun k => by rw [hF]) (Ends.pos (by omega) (Ends.pos (by omega) ?_))
    rw [hrd l i hi, wrap_id (n := (i : Int) + 1) (by omega) (by omega)]
    refine Ends.bind (hel l[i] (hg _ (List.getElem_mem hi)) x1 g0 (by omega)) (fun t ht => ?_)
    refine Ends.cases_ (fun _ => Ends.now (.inl (by omega))) (fun hn => ?_)
    rcases ht with ht | ⟨ht, hsm⟩
    · exact absurd ht hn
    · refine ih (t, ((i : Int) + 1)) ⟨by push_cast; rfl, by dsimp only; omega, by dsimp only; omega, fun j h hj => ?_⟩
      by_cases hji : j = i
      · subst hji; exact hsm
      · exact g2 j h (by omega)
/-- Copies. -/
theorem to_rows {B : Type} {F : Nat → List α → List β → Int → Option (List β)} {rd : List α → Int → α} {el : Nat → α → Option B} {mk : B → β}
    (hF : ∀ k l m i, F (k + 1) l m i = if i < (l.length : Int) then (if 0 ≤ i then ((el k (rd l i)).bind fun b => if i < (m.length : Int) then F k l (m.set i.toNat (mk b)) (wrap64 (i + 1)) else none) else none) else some m)
    (hrd : ∀ l (i : Nat) (h : i < l.length), rd l (i : Int) = l[i]) (cv : α → β) (l : List α) (hl : l.length ≤ 1048576)
    (hel : ∀ x ∈ l, Ends (fun k => el k x) (fun b => mk b = cv x)) (m : List β) (hm : m.length = l.length) : Ev (fun k => F k l m 0) (l.map cv) := by
  have h := Ends.rounds (G := fun (s : List β × Int) k => F k l s.1 s.2) (Post := fun t => t = l.map cv) l.length
    (fun i s => s.2 = (i : Int) ∧ s.1.length = l.length ∧ s.1.take i = (l.map cv).take i) ?_ ?_ (m, 0) ⟨rfl, hm, by simp⟩
  · obtain ⟨r, e, rfl⟩ := h
    exact e
  · rintro ⟨x3, x4⟩ ⟨rfl, g0, g1⟩
    dsimp only at g0 g1 ⊢
    refine Ends.step (fun k => by rw [hF]) (Ends.neg (by omega) (Ends.now ?_))
    rwa [List.take_of_length_le (by omega), List.take_of_length_le (by simp)] at g1
  · rintro i ⟨x3, x4⟩ hi ⟨rfl, g0, g1⟩ ih
    dsimp only at g0 g1 ih ⊢
    refine Ends.step (fun k => by rw [hF]) (Ends.pos (by omega) (Ends.pos (by omega) ?_))
    rw [hrd l i hi, wrap_id (n := (i : Int) + 1) (by omega) (by omega)]
    refine Ends.bind (hel l[i] (List.getElem_mem hi)) (fun b hb => Ends.pos (by omega) ?_)
    refine ih (_, ((i : Int) + 1)) ⟨by push_cast; rfl, by simpa using g0, ?_⟩
    dsimp only
    rw [show ((i : Int)).toNat = i from rfl, List.take_succ_eq_append_getElem (by simp; omega), List.take_succ_eq_append_getElem (by simpa using hi), List.take_set_of_le (by omega), g1]
    simp [hb]
/-- A row is equal to itself. -/
theorem eq_rows {F : Nat → List α → List α → Int → Option Bool} {rd : List α → Int → α} {el : Nat → α → α → Option Bool}
    (hF : ∀ k l m i, F (k + 1) l m i = if i < (l.length : Int) then (if 0 ≤ i then (if i < (m.length : Int) then ((el k (rd l i) (rd m i)).bind fun t => if t = true then F k l m (wrap64 (i + 1)) else some false) else none) else none) else some true)
    (hrd : ∀ l (i : Nat) (h : i < l.length), rd l (i : Int) = l[i]) (l : List α) (hl : l.length ≤ 1048576) (hel : ∀ x ∈ l, Ev (fun k => el k x x) true) : Ev (fun k => F k l l 0) true := by
  have h := Ends.rounds (G := fun (s : Int) k => F k l l s) (Post := fun t => t = true) l.length (fun i s => s = (i : Int)) ?_ ?_ 0 rfl
  · obtain ⟨r, e, rfl⟩ := h
    exact e
  · rintro x5 rfl
    exact Ends.step (fun k => by rw [hF]) (Ends.neg (by omega) (Ends.now rfl))
  · rintro i x5 hi rfl ih
    refine Ends.step (fun k => by rw [hF]) (Ends.pos (by omega) (Ends.pos (by omega) (Ends.pos (by omega) ?_)))
    rw [hrd l i hi, wrap_id (n := (i : Int) + 1) (by omega) (by omega)]
    refine Ends.bind (Ends.of (hel l[i] (List.getElem_mem hi))) (fun t ht => Ends.pos ht ?_)
    exact ih _ (by push_cast; rfl)
/-- Marks: they end, and the counter has grown by no more than b for each element. -/
theorem mark_rows {F : Nat → List α → Int → Int → Option (Int × List α)} (b : Int) (hb0 : 0 ≤ b) (hb1 : b ≤ 8796093022208)
    (Sm : α → Prop) (hend : ∀ k l a i, ¬ i < (l.length : Int) → F (k + 1) l a i = some (a, l))
    (hstep : ∀ (l : List α) (a : Int) (i : Nat), i < l.length → SmL Sm l → 0 ≤ a → a + b ≤ 4611686018427387904 → ∀ (Post : Int × List α → Prop), (∀ l' a', l'.length = l.length → SmL Sm l' → a ≤ a' → a' ≤ a + b → Ends (fun k => F k l' a' ((i : Int) + 1)) Post) → Ends (fun k => F k l a (i : Int)) Post)
    (l : List α) (hl : SmL Sm l) (a : Int) (h0 : 0 ≤ a) (h1 : a + 1048576 * b ≤ 4611686018427387904) : Ends (fun k => F k l a 0) (fun r => a ≤ r.1 ∧ r.1 ≤ a + 1048576 * b ∧ r.2.length = l.length ∧ SmL Sm r.2) := by
  refine Ends.rounds (G := fun (s : List α × Int × Int) k => F k s.1 s.2.1 s.2.2) (Post := fun r => a ≤ r.1 ∧ r.1 ≤ a + 1048576 * b ∧ r.2.length = l.length ∧ SmL Sm r.2) l.length
    (fun i s => s.2.2 = (i : Int) ∧ s.1.length = l.length ∧ SmL Sm s.1 ∧ a ≤ s.2.1 ∧ s.2.1 ≤ a + (i : Int) * b) ?_ ?_ (l, a, 0) ⟨rfl, rfl, hl, Int.le_refl _, by simp⟩
  · rintro ⟨x0, x1, x5⟩ ⟨rfl, g0, g1, g2, g3⟩
    dsimp only at g0 g1 g2 g3 ⊢
    have hm : (l.length : Int) * b ≤ 1048576 * b := Int.mul_le_mul_of_nonneg_right (by have := hl.1; omega) hb0
    exact Ends.step (fun k => hend k x0 x1 _ (by omega)) (Ends.now ⟨g2, by omega, g0, g1⟩)
  · rintro i ⟨x0, x1, x5⟩ hi ⟨rfl, g0, g1, g2, g3⟩ ih
    dsimp only at g0 g1 g2 g3 ih ⊢
    have hm : ((i : Int) + 1) * b ≤ 1048576 * b := Int.mul_le_mul_of_nonneg_right (by have := hl.1; omega) hb0
    rw [Int.add_mul, Int.one_mul] at hm
    refine hstep x0 x1 i (by omega) g1 (by omega) (by omega) _ (fun l' a' e1 e2 e3 e4 => ih (l', a', ((i : Int) + 1)) ⟨by push_cast; rfl, by dsimp only; omega, e2, by dsimp only; omega, ?_⟩)
    dsimp only
    push_cast
    rw [Int.add_mul, Int.one_mul]
    omega
end
theorem SmL_set {α : Type} {P : α → Prop} {l : List α} (h : SmL P l) (i : Nat) {x : α} (hx : P x) : SmL P (l.set i x) := ⟨by simpa using h.1, fun y hy => by
  rcases List.mem_or_eq_of_mem_set hy with h' | rfl
  · exact h.2 y h'
  · exact hx⟩

/-! ### the mark's text, and rows of strings -/
theorem mark_text_loop : ∀ (d : Nat) (x0 : Int) (x3 : ByteArray), 0 ≤ x0 → x0 < 10 ^ d → d ≤ 19 → x3.size + d ≤ 30 → Ends (fun k => laws_markText.l0 k x0 x3) (fun t => t.size ≤ 31)
  | 0, x0, x3, h0, h1, hd, hs => by
    refine Ends.step (fun k => by rw [laws_markText.l0]) (Ends.neg (by simp at h1; omega) (Ends.pos (by omega) (Ends.now ?_)))
    rw [ByteArray.size_append]
    show 1 + x3.size ≤ 31
    omega
  | d + 1, x0, x3, h0, h1, hd, hs => by
    refine Ends.step (fun k => by rw [laws_markText.l0]) (Ends.cases_ (fun hp => ?_) (fun hn => Ends.pos (by omega) (Ends.now ?_)))
    · simp only [Option.bind_some]
      have hz : ∀ n : Int, (strOfNums [n]).size = 1 := fun n => by simp [strOfNums, ByteArray.size]
      have hb : (10 : Int) ^ (d + 1) ≤ 10 ^ 19 := by exact_mod_cast Nat.pow_le_pow_right (by decide : 1 ≤ 10) hd
      have e1 : wrap64 (Int.tdiv x0 10) = Int.tdiv x0 10 := by
        rw [Int.tdiv_eq_ediv_of_nonneg h0]
        exact wrap_id (by omega) (by omega)
      rw [hz, e1, Int.tdiv_eq_ediv_of_nonneg h0]
      refine Ends.pos (by omega) (mark_text_loop d _ _ (by omega) ?_ (by omega) ?_)
      · rw [Int.pow_succ] at h1
        omega
      · rw [ByteArray.size_append, hz]
        omega
    · rw [ByteArray.size_append]
      show 1 + x3.size ≤ 31
      omega
theorem mark_text (a : Int) (h0 : 0 ≤ a) (h1 : a ≤ 4611686018427400000) : Ends (fun k => laws_markText.f k a) SmS := by
  unfold laws_markText.f
  refine Ends.cases_ (fun _ => Ends.now (by unfold SmS; decide)) (fun _ => (mark_text_loop 19 a _ h0 (Int.lt_of_lt_of_le (show a < 10000000000000000000 by omega) (by decide)) (by omega) (by decide)).mono (fun t ht => ?_))
  unfold SmS
  omega
theorem szS_String (l : List ByteArray) (hl : l.length ≤ 9223372036854775807) (hg : ∀ b ∈ l, b.size ≤ 9223372036854775807) (a : Int) (h0 : 0 ≤ a) (h1 : a ≤ 1048576) : Ends (fun k => laws_szStringS.f k l a) (fun t => t < 0 ∨ (t ≤ a ∧ SmL SmS l)) := by
  unfold laws_szStringS.f
  refine sz_rows (F := laws_szStringS.l0) (rd := rdOf ByteArray.empty) (el := fun k x a => if wrap64 (a - (x.size : Int)) < 0 then some (-1) else some (wrap64 (a - (x.size : Int)))) (fun k l a i => ?_) (fun l i h => rdOf_at _ l i h) (Good := fun x => x.size ≤ 9223372036854775807) (Sm := SmS) (fun x g a h0 h1 => ?_) l hl hg a h0 h1
  · rw [laws_szStringS.l0]
    by_cases c : wrap64 (a - ((rdOf ByteArray.empty l i).size : Int)) < 0
    · simp only [if_pos c, Option.bind_some]; simp
    · simp only [if_neg c, Option.bind_some]
  · have e : wrap64 (a - (x.size : Int)) = a - (x.size : Int) := wrap_id (by omega) (by omega)
    rw [e]
    exact Ends.cases_ (fun _ => Ends.now (.inl (by omega))) (fun hn => Ends.now (.inr ⟨by omega, by unfold SmS; omega⟩))
theorem toS_String (l : List ByteArray) (h : SmL SmS l) : Ends (fun k => laws_toStringS.f k l) (fun b => b = l) := by
  have hl := h.1
  unfold laws_toStringS.f
  refine Ends.pos (by omega) (Ends.pos (by omega) (Ends.of ?_))
  have e := to_rows (F := laws_toStringS.l0) (rd := rdOf ByteArray.empty) (el := fun _ x => some x) (mk := fun b : ByteArray => b) (fun k l m i => by rw [laws_toStringS.l0]; rfl) (fun l i h => rdOf_at _ l i h) (fun x => x) l hl (fun x hx => Ends.now rfl) (List.replicate ((l.length : Int)).toNat (⟨#[]⟩ : ByteArray)) (by simp)
  rwa [List.map_id'] at e
theorem eqS_String (l : List ByteArray) (h : SmL SmS l) : Ev (fun k => laws_eqStringS.f k l l) true := by
  unfold laws_eqStringS.f
  refine Ev_pos rfl ?_
  exact eq_rows (F := laws_eqStringS.l0) (rd := rdOf ByteArray.empty) (el := fun _ x y => some (decide (x.toList = y.toList))) (fun k l m i => by
    rw [laws_eqStringS.l0]
    by_cases c : (rdOf ByteArray.empty l i).toList = (rdOf ByteArray.empty m i).toList
    · simp [c]
    · simp [c]) (fun l i h => rdOf_at _ l i h) l h.1 (fun x _ => Ev_now fun _ => by simp)
theorem markS_String (l : List ByteArray) (hl : SmL SmS l) (a : Int) (h0 : 0 ≤ a) (h1 : a + 1048576 ≤ 4611686018427387904) : Ends (fun k => laws_markStringS.f k l a) (fun r => a ≤ r.1 ∧ r.1 ≤ a + 1048576 ∧ r.2.length = l.length ∧ SmL SmS r.2) := by
  refine mark_rows (F := laws_markStringS.l0) 1 (by omega) (by omega) SmS (fun k l a i hi => by rw [laws_markStringS.l0, if_neg hi]) ?_ l hl a h0 (by omega)
  intro l a i hi hs h0 h1 Post hk
  have hb := hs.1
  have w0 : wrap64 (a + 1) = a + 1 := wrap_id (by omega) (by omega)
  have wi : wrap64 ((i : Int) + 1) = (i : Int) + 1 := wrap_id (by omega) (by omega)
  refine Ends.step (fun k => by rw [laws_markStringS.l0]) ?_
  simp only [wi, w0]
  refine Ends.pos (by omega) (Ends.bind (mark_text _ (by omega) (by omega)) (fun t ht => Ends.pos (by omega) ?_))
  exact hk _ _ (by simp) (SmL_set hs _ ht) (by omega) (by omega)

/-! ### marks that are held: an element's mark takes the counter from a to c -/
def Chain {α : Type} (P : α → Int → Int → Prop) : List α → Int → Int → Prop
  | [], a, b => a = b
  | x :: t, a, b => ∃ c, P x a c ∧ Chain P t c b
theorem Chain.snoc {α : Type} {P : α → Int → Int → Prop} {x : α} {c : Int} : ∀ {l : List α} {a b : Int}, Chain P l a b → P x b c → Chain P (l ++ [x]) a c
  | [], a, b, h, hx => by
    obtain rfl : a = b := h
    exact ⟨c, hx, rfl⟩
  | y :: t, a, b, h, hx => by
    obtain ⟨d, h1, h2⟩ := h
    exact ⟨d, h1, h2.snoc hx⟩
theorem held_rows {α : Type} {F : Nat → List α → Int → Int → Option Int} {P : α → Int → Int → Prop} (hend : ∀ k l a i, ¬ i < (l.length : Int) → F (k + 1) l a i = some a)
    (hstep : ∀ (l : List α) (i : Nat) (hi : i < l.length), l.length ≤ 1048576 → ∀ a c, P l[i] a c → ∀ Post : Int → Prop, Ends (fun k => F k l c ((i : Int) + 1)) Post → Ends (fun k => F k l a (i : Int)) Post)
    (l : List α) (hl : l.length ≤ 1048576) (a b : Int) (h : Chain P l a b) : Ev (fun k => F k l a 0) b := by
  have h := Ends.rounds (G := fun (s : Int × Int) k => F k l s.1 s.2) (Post := fun r => r = b) l.length (fun i s => s.2 = (i : Int) ∧ Chain P (l.drop i) s.1 b) ?_ ?_ (a, 0) ⟨rfl, h⟩
  · obtain ⟨r, e, rfl⟩ := h
    exact e
  · rintro ⟨x1, x5⟩ ⟨rfl, g⟩
    rw [List.drop_eq_nil_of_le (by omega)] at g
    exact Ends.step (fun k => hend k l x1 _ (by omega)) (Ends.now g)
  · rintro i ⟨x1, x5⟩ hi ⟨rfl, g⟩ ih
    dsimp only at g ih ⊢
    rw [List.drop_eq_getElem_cons hi] at g
    obtain ⟨c, h1, h2⟩ := g
    exact hstep l i hi hl x1 c h1 _ (ih (c, (i : Int) + 1) ⟨by push_cast; rfl, h2⟩)
theorem mark_rows_held {α : Type} {F : Nat → List α → Int → Int → Option (Int × List α)} (b : Int) (hb0 : 0 ≤ b) (Sm : α → Prop) (P : α → Int → Int → Prop) (hend : ∀ k l a i, ¬ i < (l.length : Int) → F (k + 1) l a i = some (a, l))
    (hstep : ∀ (l : List α) (a : Int) (i : Nat), i < l.length → SmL Sm l → 0 ≤ a → a + b ≤ 4611686018427387904 → ∀ (Post : Int × List α → Prop), (∀ x a', P x a a' → Sm x → a ≤ a' → a' ≤ a + b → Ends (fun k => F k (l.set i x) a' ((i : Int) + 1)) Post) → Ends (fun k => F k l a (i : Int)) Post)
    (l : List α) (hl : SmL Sm l) (a : Int) (h0 : 0 ≤ a) (h1 : a + 1048576 * b ≤ 4611686018427387904) : Ends (fun k => F k l a 0) (fun r => a ≤ r.1 ∧ r.1 ≤ a + 1048576 * b ∧ r.2.length = l.length ∧ SmL Sm r.2 ∧ Chain P r.2 a r.1) := by
  refine Ends.rounds (G := fun (s : List α × Int × Int) k => F k s.1 s.2.1 s.2.2) (Post := fun r => a ≤ r.1 ∧ r.1 ≤ a + 1048576 * b ∧ r.2.length = l.length ∧ SmL Sm r.2 ∧ Chain P r.2 a r.1) l.length
    (fun i s => s.2.2 = (i : Int) ∧ s.1.length = l.length ∧ SmL Sm s.1 ∧ a ≤ s.2.1 ∧ s.2.1 ≤ a + (i : Int) * b ∧ Chain P (s.1.take i) a s.2.1) ?_ ?_ (l, a, 0) ⟨rfl, rfl, hl, Int.le_refl _, by simp, by simp [Chain]⟩
  · rintro ⟨x0, x1, x5⟩ ⟨rfl, g0, g1, g2, g3, g4⟩
    dsimp only at g0 g1 g2 g3 g4 ⊢
    have hm : (l.length : Int) * b ≤ 1048576 * b := Int.mul_le_mul_of_nonneg_right (by have := hl.1; omega) hb0
    rw [List.take_of_length_le (by omega)] at g4
    exact Ends.step (fun k => hend k x0 x1 _ (by omega)) (Ends.now ⟨g2, by omega, g0, g1, g4⟩)
  · rintro i ⟨x0, x1, x5⟩ hi ⟨rfl, g0, g1, g2, g3, g4⟩ ih
    dsimp only at g0 g1 g2 g3 g4 ih ⊢
    have hm : ((i : Int) + 1) * b ≤ 1048576 * b := Int.mul_le_mul_of_nonneg_right (by have := hl.1; omega) hb0
    rw [Int.add_mul, Int.one_mul] at hm
    refine hstep x0 x1 i (by omega) g1 (by omega) (by omega) _ (fun x a' e1 e2 e3 e4 => ih (x0.set i x, a', ((i : Int) + 1)) ⟨by push_cast; rfl, by simpa using g0, SmL_set g1 i e2, by dsimp only; omega, ?_, ?_⟩)
    · dsimp only
      push_cast
      rw [Int.add_mul, Int.one_mul]
      omega
    · dsimp only
      rw [List.take_succ_eq_append_getElem (by simp; omega), List.take_set_of_le (by omega)]
      simpa using g4.snoc e1
/-! ### rows of strings, held -/
def PStr (t : ByteArray) (a c : Int) : Prop := 0 ≤ a ∧ a ≤ 4611686018427387904 ∧ c = a + 1 ∧ Ev (fun k => laws_markText.f k a) t
theorem markH_String (l : List ByteArray) (hl : SmL SmS l) (a : Int) (h0 : 0 ≤ a) (h1 : a + 1048576 ≤ 4611686018427387904) : Ends (fun k => laws_markStringS.f k l a) (fun r => a ≤ r.1 ∧ r.1 ≤ a + 1048576 ∧ r.2.length = l.length ∧ SmL SmS r.2 ∧ Chain PStr r.2 a r.1) := by
  refine mark_rows_held (F := laws_markStringS.l0) 1 (by omega) SmS PStr (fun k l a i hi => by rw [laws_markStringS.l0, if_neg hi]) ?_ l hl a h0 (by omega)
  intro l a i hi hs h0 h1 Post hk
  have hb := hs.1
  have w0 : wrap64 (a + 1) = a + 1 := wrap_id (by omega) (by omega)
  have wi : wrap64 ((i : Int) + 1) = (i : Int) + 1 := wrap_id (by omega) (by omega)
  obtain ⟨t, et, ht⟩ := mark_text a h0 (by omega)
  refine Ends.step (fun k => by rw [laws_markStringS.l0]) ?_
  simp only [wi, w0]
  refine Ends.pos (by omega) (Ends.bind (Ends.of et) (fun t' ht' => Ends.pos (by omega) ?_))
  subst ht'
  exact hk t' _ ⟨h0, by omega, rfl, et⟩ ht (by omega) (by omega)
theorem held_String (l : List ByteArray) (hl : l.length ≤ 1048576) (a b : Int) (h : Chain PStr l a b) : Ev (fun k => laws_heldStringS.f k l a) b := by
  refine held_rows (F := laws_heldStringS.l0) (P := PStr) (fun k l a i hi => by rw [laws_heldStringS.l0, if_neg hi]) ?_ l hl a b h
  rintro l i hi hl a c ⟨h0, h1, rfl, et⟩ Post hk
  have w0 : wrap64 (a + 1) = a + 1 := wrap_id (by omega) (by omega)
  have wi : wrap64 ((i : Int) + 1) = (i : Int) + 1 := wrap_id (by omega) (by omega)
  refine Ends.step (fun k => by rw [laws_heldStringS.l0]) (Ends.pos (by omega) (Ends.pos (by omega) (Ends.bind (Ends.of et) (fun t ht => ?_))))
  subst ht
  rw [show rdOf ByteArray.empty l (i : Int) = l[i] from rdOf_at _ l i hi, w0, wi]
  exact Ends.pos rfl hk

def Sm_Result (y : S77) : Prop := SmS y.f1 ∧ SmL SmS y.f4
def cv_Result (x : S74) : S77 := ⟨x.f0, x.f1, x.f2, x.f3, x.f4⟩
theorem sz_Result (x : S74) (g : good74 x) (a : Int) (h0 : 0 ≤ a) (h1 : a ≤ 1048576) : Ends (fun k => laws_szResult.f k (x.f0) (x.f1) (x.f2) (x.f3) (x.f4) a) (fun t => t < 0 ∨ (t ≤ a ∧ Sm_Result (cv_Result x))) := by
  unfold laws_szResult.f
  have g0 : x.f1.size ≤ 9223372036854775807 := (g.2.1)
  have w0 : wrap64 (a - (x.f1.size : Int)) = a - (x.f1.size : Int) := wrap_id (by omega) (by omega)
  rw [w0]
  refine Ends.cases_ (fun _ => Ends.now (.inl (by omega))) (fun hn0 => ?_)
  obtain ⟨t0, e0⟩ : ∃ t, t = a - (x.f1.size : Int) := ⟨_, rfl⟩
  rw [← e0]
  rw [← e0] at hn0
  refine Ends.bind (szS_String x.f4 (g.2.2.2.2).1 (g.2.2.2.2).2 t0 (by omega) (by omega)) (fun t1 ht1 => Ends.cases_ (fun _ => Ends.now (.inl (by omega))) (fun hn1 => ?_))
  replace ht1 := ht1.resolve_left hn1
  exact Ends.now (.inr ⟨by omega, ⟨(show (x.f1).size ≤ 1048576 by omega), ht1.2⟩⟩)
theorem to_Result (x : S74) (h : Sm_Result (cv_Result x)) : Ends (fun k => laws_toResult.f k (x.f0) (x.f1) (x.f2) (x.f3) (x.f4)) (fun b => b = ((cv_Result x).f0, (cv_Result x).f1, (cv_Result x).f2, (cv_Result x).f3, (cv_Result x).f4)) := by
  unfold laws_toResult.f
  refine Ends.bind (toS_String x.f4 h.2) (fun b hb => ?_)
  subst hb
  exact Ends.now rfl
theorem eq_Result (y : S77) (h : Sm_Result y) : Ev (fun k => laws_eqResult.f k (y.f0) (y.f1) (y.f2) (y.f3) (y.f4) (y.f0) (y.f1) (y.f2) (y.f3) (y.f4)) true := by
  unfold laws_eqResult.f
  repeat (first | exact Ev_now fun _ => rfl | refine Ev_pos rfl ?_ | refine Ev_pos ⟨rfl, rfl, rfl, rfl, rfl⟩ ?_ | refine Ev_neg (by simp) ?_ | refine Ev.bind (eqS_String y.f4 h.2) ?_ | exact Ev_now fun _ => by simp)
theorem eqS_Result (l : List (S77)) (h : SmL Sm_Result l) : Ev (fun k => laws_eqResultS.f k l l) true := by
  unfold laws_eqResultS.f
  exact Ev_pos rfl (eq_rows (F := laws_eqResultS.l0) (rd := rd_T77) (el := fun k x y => laws_eqResult.f k (x.f0) (x.f1) (x.f2) (x.f3) (x.f4) (y.f0) (y.f1) (y.f2) (y.f3) (y.f4)) (fun k l m i => by rw [laws_eqResultS.l0]) (fun l i h => rdOf_at _ l i h) l h.1 (fun x hx => eq_Result x (h.2 x hx)))
def Sm_Told (y : S79) : Prop := SmS y.f3.f1 ∧ SmL SmS y.f3.f4
def cv_Told (x : S76) : S79 := ⟨x.f0, x.f1, x.f2, ⟨x.f3.f0, x.f3.f1, x.f3.f2, x.f3.f3, x.f3.f4⟩⟩
theorem sz_Told (x : S76) (g : good76 x) (a : Int) (h0 : 0 ≤ a) (h1 : a ≤ 1048576) : Ends (fun k => laws_szTold.f k (x.f0) (x.f1) (x.f2) (x.f3.f0) (x.f3.f1) (x.f3.f2) (x.f3.f3) (x.f3.f4) a) (fun t => t < 0 ∨ (t ≤ a ∧ Sm_Told (cv_Told x))) := by
  unfold laws_szTold.f
  refine Ends.bind (sz_Result x.f3 g.2.2.2 a (by omega) (by omega)) (fun t0 ht0 => Ends.cases_ (fun _ => Ends.now (.inl (by omega))) (fun hn0 => ?_))
  replace ht0 := ht0.resolve_left hn0
  exact Ends.now (.inr ⟨by omega, ⟨ht0.2.1, ht0.2.2⟩⟩)
theorem szS_Told (l : List (S76)) (hl : l.length ≤ 9223372036854775807) (hg : ∀ x ∈ l, good76 x) (a : Int) (h0 : 0 ≤ a) (h1 : a ≤ 1048576) : Ends (fun k => laws_szToldS.f k l a) (fun t => t < 0 ∨ (t ≤ a ∧ SmL Sm_Told (l.map cv_Told))) := by
  refine (sz_rows (F := laws_szToldS.l0) (rd := rd_T76) (el := fun k x a => laws_szTold.f k (x.f0) (x.f1) (x.f2) (x.f3.f0) (x.f3.f1) (x.f3.f2) (x.f3.f3) (x.f3.f4) a) (fun k l a i => by rw [laws_szToldS.l0]) (fun l i h => rdOf_at _ l i h) (Good := good76) (Sm := fun x => Sm_Told (cv_Told x)) (fun x g a h0 h1 => sz_Told x g a h0 h1) l hl hg a h0 h1).mono (fun t ht => ht.imp_right (fun ht => ⟨ht.1, ⟨by simpa using ht.2.1, ?_⟩⟩))
  intro y hy
  obtain ⟨x, hx, rfl⟩ := List.mem_map.1 hy
  exact ht.2.2 x hx
theorem to_Told (x : S76) (h : Sm_Told (cv_Told x)) : Ends (fun k => laws_toTold.f k (x.f0) (x.f1) (x.f2) (x.f3.f0) (x.f3.f1) (x.f3.f2) (x.f3.f3) (x.f3.f4)) (fun b => b = ((cv_Told x).f0, (cv_Told x).f1, (cv_Told x).f2, (cv_Told x).f3.f0, (cv_Told x).f3.f1, (cv_Told x).f3.f2, (cv_Told x).f3.f3, (cv_Told x).f3.f4)) := by
  unfold laws_toTold.f
  refine Ends.bind (to_Result x.f3 ⟨h.1, h.2⟩) (fun b hb => ?_)
  subst hb
  exact Ends.now rfl
theorem toS_Told (l : List (S76)) (h : SmL Sm_Told (l.map cv_Told)) : Ends (fun k => laws_toToldS.f k l) (fun b => b = l.map cv_Told) := by
  have hl : l.length ≤ 1048576 := by simpa using h.1
  unfold laws_toToldS.f
  refine Ends.pos (by omega) (Ends.pos (by omega) (Ends.of ?_))
  exact to_rows (F := laws_toToldS.l0) (rd := rd_T76) (el := fun k x => laws_toTold.f k (x.f0) (x.f1) (x.f2) (x.f3.f0) (x.f3.f1) (x.f3.f2) (x.f3.f3) (x.f3.f4)) (mk := fun b => (⟨b.1, b.2.1, b.2.2.1, ⟨b.2.2.2.1, b.2.2.2.2.1, b.2.2.2.2.2.1, b.2.2.2.2.2.2.1, b.2.2.2.2.2.2.2⟩⟩ : S79)) (fun k l m i => by rw [laws_toToldS.l0]) (fun l i h => rdOf_at _ l i h) cv_Told l hl (fun x hx => (to_Told x (h.2 _ (List.mem_map_of_mem hx))).mono (fun b hb => by subst hb; rfl)) _ (by simp)
theorem eq_Told (y : S79) (h : Sm_Told y) : Ev (fun k => laws_eqTold.f k (y.f0) (y.f1) (y.f2) (y.f3.f0) (y.f3.f1) (y.f3.f2) (y.f3.f3) (y.f3.f4) (y.f0) (y.f1) (y.f2) (y.f3.f0) (y.f3.f1) (y.f3.f2) (y.f3.f3) (y.f3.f4)) true := by
  unfold laws_eqTold.f
  repeat (first | exact Ev_now fun _ => rfl | refine Ev_pos rfl ?_ | refine Ev_pos ⟨rfl, rfl, rfl, rfl⟩ ?_ | refine Ev_neg (by simp) ?_ | refine Ev.bind (eq_Result y.f3 ⟨h.1, h.2⟩) ?_ | exact Ev_now fun _ => by simp)
theorem eqS_Told (l : List (S79)) (h : SmL Sm_Told l) : Ev (fun k => laws_eqToldS.f k l l) true := by
  unfold laws_eqToldS.f
  exact Ev_pos rfl (eq_rows (F := laws_eqToldS.l0) (rd := rd_T79) (el := fun k x y => laws_eqTold.f k (x.f0) (x.f1) (x.f2) (x.f3.f0) (x.f3.f1) (x.f3.f2) (x.f3.f3) (x.f3.f4) (y.f0) (y.f1) (y.f2) (y.f3.f0) (y.f3.f1) (y.f3.f2) (y.f3.f3) (y.f3.f4)) (fun k l m i => by rw [laws_eqToldS.l0]) (fun l i h => rdOf_at _ l i h) l h.1 (fun x hx => eq_Told x (h.2 x hx)))
theorem el_Told (e : S79) (h : Sm_Told e) (a : Int) (h0 : 0 ≤ a) (h1 : a + 1048583 ≤ 4611686018427387904) : Ends (fun k => laws_markToldS.el k e a) (fun r => a ≤ r.1 ∧ r.1 ≤ a + 1048583 ∧ Sm_Told r.2) := by
  unfold laws_markToldS.el
  have W : ∀ z : Int, 0 ≤ z → z ≤ 4611686018427400000 → wrap64 (z + 1) = z + 1 := fun z _ _ => wrap_id (by omega) (by omega)
  repeat (first | (simp (disch := omega) only [W]) | (refine Ends.bind (mark_text _ (by omega) (by omega)) (fun t ht => ?_)) | (refine Ends.bind (markS_String e.f3.f4 h.2 _ (by omega) (by omega)) (fun r hr => ?_); obtain ⟨c1, c2, _, _⟩ := hr))
  refine Ends.now ?_
  refine ⟨by omega, by omega, ?_⟩
  unfold Sm_Told
  refine ⟨?_, ?_⟩ <;> assumption
theorem markS_Told (l : List (S79)) (hl : SmL Sm_Told l) (a : Int) (h0 : 0 ≤ a) (h1 : a + 1099518967808 ≤ 4611686018427387904) : Ends (fun k => laws_markToldS.f k l a) (fun r => a ≤ r.1 ∧ r.1 ≤ a + 1099518967808 ∧ r.2.length = l.length ∧ SmL Sm_Told r.2) := by
  refine mark_rows (F := laws_markToldS.l0) 1048583 (by omega) (by omega) Sm_Told (fun k l a i hi => by rw [laws_markToldS.l0, if_neg hi]) ?_ l hl a h0 (by omega)
  intro l a i hi hs h0 h1 Post hk
  have hb := hs.1
  have wi : wrap64 ((i : Int) + 1) = (i : Int) + 1 := wrap_id (by omega) (by omega)
  refine Ends.step (fun k => by rw [laws_markToldS.l0]) (Ends.pos (by omega) (Ends.pos (by omega) ?_))
  rw [show rd_T79 l (i : Int) = l[i] from rdOf_at _ l i hi, wi]
  refine Ends.bind (el_Told l[i] (hs.2 _ (List.getElem_mem hi)) a h0 (by omega)) (fun r hr => hk _ _ (by simp) (SmL_set hs _ hr.2.2) hr.1 hr.2.1)

/-! ### rows of results, held -/
def PRes (e : S77) (a c : Int) : Prop := 0 ≤ a ∧ a + 1048580 ≤ 4611686018427387904 ∧ e.f0 = a ∧ Ev (fun k => laws_markText.f k (a + 1)) e.f1 ∧ e.f2 = a + 2 ∧ e.f3 = decide (Int.tmod (a + 3) 3 = 0) ∧ e.f4.length ≤ 1048576 ∧ Chain PStr e.f4 (a + 4) c ∧ a + 4 ≤ c
theorem markH_Result (l : List S77) (hl : SmL Sm_Result l) (a : Int) (h0 : 0 ≤ a) (h1 : a + 1048576 * 1048580 ≤ 4611686018427387904) : Ends (fun k => laws_markResultS.f k l a) (fun r => a ≤ r.1 ∧ r.1 ≤ a + 1048576 * 1048580 ∧ r.2.length = l.length ∧ SmL Sm_Result r.2 ∧ Chain PRes r.2 a r.1) := by
  refine mark_rows_held (F := laws_markResultS.l0) 1048580 (by omega) Sm_Result PRes (fun k l a i hi => by rw [laws_markResultS.l0, if_neg hi]) ?_ l hl a h0 (by omega)
  intro l a i hi hs h0 h1 Post hk
  have hb := hs.1
  have wi : wrap64 ((i : Int) + 1) = (i : Int) + 1 := wrap_id (by omega) (by omega)
  have w0 : wrap64 (a + 1) = a + 1 := wrap_id (by omega) (by omega)
  have w1 : wrap64 (a + 1 + 1) = a + 2 := by have e_ := wrap_id (n := a + 1 + 1) (by omega) (by omega); omega
  have w2 : wrap64 (a + 2 + 1) = a + 3 := by have e_ := wrap_id (n := a + 2 + 1) (by omega) (by omega); omega
  have w3 : wrap64 (a + 3 + 1) = a + 4 := by have e_ := wrap_id (n := a + 3 + 1) (by omega) (by omega); omega
  have hx := hs.2 l[i] (List.getElem_mem hi)
  unfold Sm_Result at hx
  refine Ends.step (fun k => by rw [laws_markResultS.l0]) (Ends.pos (by omega) (Ends.pos (by omega) ?_))
  rw [show rd_T77 l (i : Int) = l[i] from rdOf_at _ l i hi, wi]
  unfold laws_markResultS.el
  simp only [w0, w1, w2, w3]
  obtain ⟨t, et, ht⟩ := mark_text (a + 1) (by omega) (by omega)
  obtain ⟨⟨c, n⟩, en, hn⟩ := markH_String l[i].f4 hx.2 (a + 4) (by omega) (by omega)
  dsimp only at hn
  refine Ends.bind (P := fun b => b = (c, (⟨a, t, a + 2, decide (Int.tmod (a + 3) 3 = 0), n⟩ : S77))) (Ends.bind (Ends.of et) (fun t' ht' => ?_)) (fun r hr => ?_)
  · subst ht'
    refine Ends.bind (Ends.of en) (fun n' hn' => ?_)
    subst hn'
    exact Ends.now rfl
  · subst hr
    exact hk _ _ ⟨h0, by omega, rfl, et, rfl, rfl, hn.2.2.2.1.1, hn.2.2.2.2, hn.1⟩ ⟨ht, hn.2.2.2.1⟩ (by dsimp only; omega) (by dsimp only; omega)
theorem held_Result (l : List S77) (hl : l.length ≤ 1048576) (a b : Int) (h : Chain PRes l a b) : Ev (fun k => laws_heldResultS.f k l a) b := by
  refine held_rows (F := laws_heldResultS.l0) (P := PRes) (fun k l a i hi => by rw [laws_heldResultS.l0, if_neg hi]) ?_ l hl a b h
  rintro l i hi hl a c ⟨h0, h1, e0, e1, e2, e3, e4, e5, e6⟩ Post hk
  have wi : wrap64 ((i : Int) + 1) = (i : Int) + 1 := wrap_id (by omega) (by omega)
  have w0 : wrap64 (a + 1) = a + 1 := wrap_id (by omega) (by omega)
  have w1 : wrap64 (a + 1 + 1) = a + 2 := by have e_ := wrap_id (n := a + 1 + 1) (by omega) (by omega); omega
  have w2 : wrap64 (a + 2 + 1) = a + 3 := by have e_ := wrap_id (n := a + 2 + 1) (by omega) (by omega); omega
  have w3 : wrap64 (a + 3 + 1) = a + 4 := by have e_ := wrap_id (n := a + 3 + 1) (by omega) (by omega); omega
  refine Ends.step (fun k => by rw [laws_heldResultS.l0]) (Ends.pos (by omega) (Ends.pos (by omega) ?_))
  rw [show rd_T77 l (i : Int) = l[i] from rdOf_at _ l i hi]
  simp only [wi, w0, w1, w2, w3]
  refine Ends.pos e0 (Ends.bind (Ends.of e1) (fun t ht => ?_))
  subst ht
  refine Ends.pos rfl (Ends.pos e2 (Ends.neg ?_ (Ends.bind (Ends.of (held_String _ e4 _ _ e5)) (fun d hd => ?_))))
  · rw [e3]
    by_cases q : Int.tmod (a + 3) 3 = 0 <;> simp [q]
  · subst hd
    exact Ends.neg (by omega) hk

/-! ### ToldTo -/
def told (l : List S79) (t : Int) : List S77 := (l.filter (fun x => x.f2 && decide (x.f1 = t))).map (·.f3)
theorem told_take (l : List S79) (t : Int) (i : Nat) (hi : i < l.length) : told (l.take (i + 1)) t = told (l.take i) t ++ (if l[i].f2 = true ∧ l[i].f1 = t then [l[i].f3] else []) := by
  unfold told
  rw [List.take_succ_eq_append_getElem hi, List.filter_append, List.map_append]
  congr 1
  by_cases h1 : l[i].f2 = true <;> by_cases h2 : l[i].f1 = t <;> simp [h1, h2]
theorem told_len (l : List S79) (t : Int) (i : Nat) : (told (l.take i) t).length ≤ i := by
  unfold told
  rw [List.length_map]
  exact Nat.le_trans (List.length_filter_le _ _) (List.length_take_le _ _)
theorem spec_told (l : List S79) (h : SmL Sm_Told l) (t : Int) : Ev (fun k => spec_ToldTo.f k l t) (told l t) := by
  have hl := h.1
  unfold spec_ToldTo.f
  have h := Ends.rounds (G := fun (s : List S77 × Int) k => spec_ToldTo.l0 k l t s.1 s.2) (Post := fun r => r = told l t) l.length (fun i s => s.2 = (i : Int) ∧ s.1 = told (l.take i) t) ?_ ?_ ([], 0) ⟨rfl, rfl⟩
  · obtain ⟨r, e, rfl⟩ := h
    exact e
  · rintro ⟨x5, x6⟩ ⟨rfl, rfl⟩
    refine Ends.step (fun k => by rw [spec_ToldTo.l0]) (Ends.neg (by omega) (Ends.now ?_))
    rw [List.take_length]
  · rintro i ⟨x5, x6⟩ hi ⟨rfl, rfl⟩ ih
    dsimp only at ih ⊢
    have e := told_take l t i hi
    have hn := told_len l t i
    have hx := h.2 l[i] (List.getElem_mem hi)
    unfold Sm_Told at hx
    have hx4 := hx.2.1
    refine Ends.step (fun k => by rw [spec_ToldTo.l0]) (Ends.pos (by omega) (Ends.pos (by omega) ?_))
    rw [show rd_T79 l (i : Int) = l[i] from rdOf_at _ l i hi, wrap_id (n := (i : Int) + 1) (by omega) (by omega)]
    refine Ends.cases_ (fun c1 => Ends.cases_ (fun c2 => ?_) (fun c2 => ?_)) (fun c1 => ?_)
    · simp only [Option.bind_some, List.length_nil, List.nil_append]
      refine Ends.pos (by omega) (Ends.pos (by omega) (ih (_, ((i : Int) + 1)) ⟨by push_cast; rfl, ?_⟩))
      rw [e, if_pos ⟨c1, c2⟩]
    · exact ih (_, ((i : Int) + 1)) ⟨by push_cast; rfl, by rw [e, if_neg (fun q => c2 q.2), List.append_nil]; rfl⟩
    · exact ih (_, ((i : Int) + 1)) ⟨by push_cast; rfl, by rw [e, if_neg (fun q => c1 q.1), List.append_nil]; rfl⟩
theorem impl_told (l : List S79) (h : SmL Sm_Told l) (t : Int) : Ev (fun k => impl_ToldTo.f k l t) (told l t) := by
  have hl := h.1
  unfold impl_ToldTo.f
  have h := Ends.rounds (G := fun (s : List S77 × Int) k => impl_ToldTo.l0 k t s.1 l (l.length : Int) s.2) (Post := fun r => r = told l t) l.length (fun i s => s.2 = (i : Int) ∧ s.1 = told (l.take i) t) ?_ ?_ ([], 0) ⟨rfl, rfl⟩
  · obtain ⟨r, e, rfl⟩ := h
    exact e
  · rintro ⟨x5, x6⟩ ⟨rfl, rfl⟩
    refine Ends.step (fun k => by rw [impl_ToldTo.l0]) (Ends.neg (by omega) (Ends.now ?_))
    rw [List.take_length]
  · rintro i ⟨x5, x6⟩ hi ⟨rfl, rfl⟩ ih
    dsimp only at ih ⊢
    have e := told_take l t i hi
    have hn := told_len l t i
    have hx := h.2 l[i] (List.getElem_mem hi)
    unfold Sm_Told at hx
    have hx4 := hx.2.1
    refine Ends.step (fun k => by rw [impl_ToldTo.l0]) (Ends.pos (by omega) (Ends.pos (by omega) (Ends.pos (by omega) ?_)))
    rw [show rd_T79 l (i : Int) = l[i] from rdOf_at _ l i hi, wrap_id (n := (i : Int) + 1) (by omega) (by omega)]
    refine Ends.cases_ (fun c1 => Ends.cases_ (fun c2 => ?_) (fun c2 => ?_)) (fun c1 => ?_)
    · have ec : impl_copyResult.f l[i].f3.f0 l[i].f3.f1 l[i].f3.f2 l[i].f3.f3 l[i].f3.f4 = some (l[i].f3.f0, l[i].f3.f1, l[i].f3.f2, l[i].f3.f3, l[i].f3.f4) := by
        unfold impl_copyResult.f slices_Clone_string_string.f
        rw [if_pos (by omega)]
        rfl
      simp only [ec, Option.bind_some]
      refine Ends.pos (by omega) (ih (_, ((i : Int) + 1)) ⟨by push_cast; rfl, ?_⟩)
      rw [e, if_pos ⟨c1, c2⟩]
    · exact ih (_, ((i : Int) + 1)) ⟨by push_cast; rfl, by rw [e, if_neg (fun q => c2 q.2), List.append_nil]; rfl⟩
    · exact ih (_, ((i : Int) + 1)) ⟨by push_cast; rfl, by rw [e, if_neg (fun q => c1 q.1), List.append_nil]; rfl⟩
theorem told_small (l : List S79) (h : SmL Sm_Told l) (t : Int) : SmL Sm_Result (told l t) := by
  refine ⟨Nat.le_trans (by have := told_len l t l.length; rwa [List.take_length] at this) h.1, fun y hy => ?_⟩
  obtain ⟨x, hx, rfl⟩ := List.mem_map.1 hy
  exact h.2 x (List.mem_filter.1 hx).1
theorem pure : ∀ (x0 : List (S76)) (x1 : Int), (fun l => l.length ≤ 9223372036854775807 ∧ ∀ b ∈ l, good76 b) x0 → (fun n => (Lit.int .i64 n).wf = true) x1 → ∃ k, laws_FnExactToldTo.f k x0 x1 = some true := by
  intro x0 x1 g _
  refine Ev.rounds (g := fun k => laws_FnExactToldTo.f k x0 x1) ?_
  obtain ⟨n, hn, hq⟩ := szS_Told x0 g.1 g.2 1048576 (by omega) (by omega)
  unfold laws_FnExactToldTo.f
  refine Ev.bind hn ?_
  by_cases c : n < 0
  · exact Ev_pos c (Ev_now fun _ => rfl)
  refine Ev_neg c ?_
  have hs := (hq.resolve_left c).2
  obtain ⟨t, ht, rfl⟩ := toS_Told x0 hs
  refine Ev.bind ht ?_
  obtain ⟨y, hy⟩ : ∃ y, y = x0.map cv_Told := ⟨_, rfl⟩
  rw [← hy] at hs ⊢
  have hr := told_small y hs x1
  refine Ev.bind (spec_told y hs x1) (Ev.bind (impl_told y hs x1) ?_)
  refine Ev.bind (eqS_Result _ hr) (Ev.bind (eqS_Told y hs) ?_)
  obtain ⟨m, hm, hm1, hm2, _⟩ := markS_Told y hs 1 (by omega) (by omega)
  obtain ⟨m', hm', hg1, hg2, hg3, hg4, hg5⟩ := markH_Result _ hr 1 (by omega) (by omega)
  refine Ev.bind hm (Ev.bind hm' (Ev.bind (held_Result _ hg4.1 _ _ hg5) ?_))
  exact Ev_pos ⟨rfl, rfl, by omega, by omega, rfl⟩ (Ev_now fun _ => rfl)

end Go.Proofs.Ytggfonljcbmjmaa.PFnExactToldTo
