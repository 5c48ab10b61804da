/- Certificates in plain Lean: which may be, their marks and places, one token more, all as text. -/
import Derived.Test.YtdlgceepanegdaaDoorHAppC
import Derived.Test.YtdlgceepanegdaaDoorHNum
namespace Go.Proofs.YtdlgceepanegdaaDoor.HSpec
open HAppd HAppC HShow HNum Go.RowKit
set_option linter.unusedVariables false
abbrev P := Int × Int
def fitsB (p : P) (m : Int) : Bool := if p.1 = 0 then skp p.2 else if p.1 = 5 then (decide (p.2 ≥ 0) && decide (p.2 < m)) else (decide (p.1 > 0) && (decide (p.1 < 6) && (p.2 == 0)))
def folB (a b : P) : Bool := if a.1 = 0 then b.1 == 1 else if a.1 = 4 then (b.1 == 2 || b.1 == 3) else true
/-- t may stand here: it is the first one, or stands behind last; so many marks are before it -/
def here (f : Bool) (m : Int) (last t : P) : Bool := fitsB t m && (if f then !decide (t.1 > 1) else folB last t)
def mk (t : P) : Int := if t.1 = 4 then 1 else 0
def pl (t : P) : Int := if t.1 = 1 then 1 else if t.1 = 0 then (if skp t.2 = true then t.2 else 0) else 0
def marks : List P → Int
  | [] => 0
  | t :: l => mk t + marks l
def places : List P → Int
  | [] => 0
  | t :: l => pl t + places l
/-- all may stand where they do -/
def ok : List P → Bool → Int → P → Bool
  | [], _, _, _ => true
  | t :: l, f, m, last => here f m last t && ok l false (m + mk t) t
def right (L : List P) : Bool := ok L true 0 (4, 0) && (L.isEmpty || (L.getLastD (4, 0)).1 != 4)
theorem marks_append (A B : List P) : marks (A ++ B) = marks A + marks B := by
  induction A with
  | nil => simp [marks]
  | cons t A ih => simp only [List.cons_append, marks, ih]; omega
theorem places_append (A B : List P) : places (A ++ B) = places A + places B := by
  induction A with
  | nil => simp [places]
  | cons t A ih => simp only [List.cons_append, places, ih]; omega
theorem mk_le (t : P) : 0 ≤ mk t ∧ mk t ≤ 1 := by unfold mk; split <;> omega
theorem marks_le (A : List P) : 0 ≤ marks A ∧ marks A ≤ A.length := by
  induction A with
  | nil => simp [marks]
  | cons t A ih => have := mk_le t; simp only [marks, List.length_cons]; omega
theorem skp_iff (n : Int) : skp n = true ↔ 1 ≤ n ∧ n ≤ 10001 := by unfold skp; simp
theorem pl_le (t : P) : 0 ≤ pl t ∧ pl t ≤ 10001 := by
  unfold pl
  split
  · omega
  · split
    · split
      · rename_i h; have := (skp_iff _).1 h; omega
      · omega
    · omega
theorem places_le (A : List P) : 0 ≤ places A ∧ places A ≤ 10001 * A.length := by
  induction A with
  | nil => simp [places]
  | cons t A ih => have := pl_le t; simp only [places, List.length_cons]; omega
theorem ok_append (A B : List P) (f : Bool) (m : Int) (last : P) : ok (A ++ B) f m last = (ok A f m last && ok B (f && A.isEmpty) (m + marks A) (A.getLastD last)) := by
  induction A generalizing f m last with
  | nil => simp [ok, marks]
  | cons t A ih =>
    simp only [List.cons_append, ok, ih, marks, List.getLastD_cons, Bool.false_and, List.isEmpty_cons, Bool.and_false]
    rw [Bool.and_assoc, Int.add_assoc]
theorem getLastD_snoc (A : List P) (t d : P) : (A ++ [t]).getLastD d = t := by simp
/-! one token more -/
theorem add_other (M : List P) (t : P) (h : t.1 ≠ 0 ∨ (M.getLastD (4, 0)).1 ≠ 0) : add M t = M ++ [t] := by
  rcases List.eq_nil_or_concat M with rfl | ⟨A, p, hA⟩
  · rfl
  · rw [List.concat_eq_append] at hA
    subst hA
    rw [getLastD_snoc] at h
    rw [add_snoc, if_neg (by omega)]
/-- it goes into the last one, or stands behind -/
theorem add_cases (M : List P) (t : P) : add M t = M ++ [t] ∨ ∃ A p, M = A ++ [p] ∧ t.1 = 0 ∧ p.1 = 0 ∧ 1 ≤ t.2 ∧ 1 ≤ p.2 ∧ p.2 + t.2 ≤ 10001 ∧ add M t = A ++ [(p.1, p.2 + t.2)] := by
  rcases List.eq_nil_or_concat M with rfl | ⟨A, p, hA⟩
  · exact .inl rfl
  · rw [List.concat_eq_append] at hA
    subst hA
    by_cases h : t.1 = 0 ∧ p.1 = 0 ∧ skp t.2 = true ∧ skp p.2 = true ∧ skp (wrap64 (t.2 + p.2)) = true
    · obtain ⟨h1, h2, h3, h4, h5⟩ := h
      have h3' := (skp_iff _).1 h3
      have h4' := (skp_iff _).1 h4
      have h5' := (skp_iff _).1 h5
      rw [show wrap64 (t.2 + p.2) = t.2 + p.2 by unfold wrap64; omega] at h5'
      refine .inr ⟨A, p, rfl, h1, h2, h3'.1, h4'.1, by omega, ?_⟩
      rw [add_snoc, if_pos ⟨h1, h2, h3, h4, h5⟩, show wrap64 (p.2 + t.2) = p.2 + t.2 by unfold wrap64; omega]
    · exact .inl (by rw [add_snoc, if_neg h])
theorem add_marks (M : List P) (t : P) : marks (add M t) = marks M + mk t := by
  rcases add_cases M t with h | ⟨A, p, rfl, h1, h2, h3, h4, h5, h⟩
  · rw [h, marks_append]; simp [marks]
  · rw [h, marks_append, marks_append]; simp [marks, mk, h1, h2]
theorem add_places (M : List P) (t : P) : places (add M t) = places M + pl t := by
  rcases add_cases M t with h | ⟨A, p, rfl, h1, h2, h3, h4, h5, h⟩
  · rw [h, places_append]; simp [places]
  · have e1 : pl t = t.2 := by unfold pl; rw [if_neg (by omega), if_pos h1, if_pos ((skp_iff _).2 (by omega))]
    have e2 : pl p = p.2 := by unfold pl; rw [if_neg (by omega), if_pos h2, if_pos ((skp_iff _).2 (by omega))]
    have e3 : pl (p.1, p.2 + t.2) = p.2 + t.2 := by unfold pl; simp only []; rw [if_neg (by omega), if_pos h2, if_pos ((skp_iff _).2 (by omega))]
    rw [h, places_append, places_append]
    simp only [places, e1, e2, e3]
    omega
theorem add_length (M : List P) (t : P) : (add M t).length = M.length + 1 ∨ ((add M t).length = M.length ∧ t.1 = 0) := by
  rcases add_cases M t with h | ⟨A, p, rfl, h1, h2, h3, h4, h5, h⟩
  · rw [h]; simp
  · rw [h]; exact .inr ⟨by simp, h1⟩
/-! those up to a place; a Try more -/
theorem right_take (L : List P) (k : Nat) (hR : right L = true) (hk : k ≤ L.length) (h : (L.take k).isEmpty = true ∨ ((L.take k).getLastD (4, 0)).1 ≠ 4) : right (L.take k) = true := by
  unfold right at hR ⊢
  rw [Bool.and_eq_true] at hR
  have h1 := hR.1
  rw [← List.take_append_drop k L, ok_append, Bool.and_eq_true] at h1
  rw [h1.1, Bool.true_and]
  rcases h with h | h
  · rw [h]; rfl
  · rw [show ((((L.take k).getLastD (4, 0)).1 != 4) = true) from bne_iff_ne.2 h, Bool.or_true]
theorem right_mark (M : List P) (h0 : M ≠ []) (h : (M.getLastD (4, 0)).1 = 4) : right M = false := by
  unfold right
  rw [h]
  cases M with
  | nil => exact absurd rfl h0
  | cons a M => simp
theorem right_try (M : List P) (hR : right M = true) : right (add M (1, 0)) = true := by
  rw [add_other M (1, 0) (.inl (by decide))]
  unfold right at hR ⊢
  rw [Bool.and_eq_true] at hR
  rw [ok_append, hR.1, getLastD_snoc]
  simp only [ok, here, Bool.true_and, Bool.and_true]
  rw [show fitsB (1, 0) (0 + marks M) = true by unfold fitsB; simp]
  cases M with
  | nil => rfl
  | cons a M =>
    have h2 := hR.2
    simp only [List.isEmpty_cons, Bool.false_or] at h2 ⊢
    unfold folB
    simp at h2
    simp [h2]
/-! one by one -/
/-- of tokens that may be, none goes into the one before it -/
theorem right_adds (A B : List P) (t : P) (hR : right (A ++ t :: B) = true) : add A t = A ++ [t] := by
  unfold right at hR
  rw [Bool.and_eq_true] at hR
  have h1 := hR.1
  rw [ok_append, Bool.and_eq_true] at h1
  have h2 := h1.2
  unfold ok here at h2
  rw [Bool.and_eq_true, Bool.and_eq_true] at h2
  have h3 := h2.1.2
  rcases List.eq_nil_or_concat A with rfl | ⟨C, p, hC⟩
  · rfl
  · rw [List.concat_eq_append] at hC
    subst hC
    refine add_other _ t ?_
    rw [getLastD_snoc] at h3 ⊢
    by_cases e : p.1 = 0
    · left
      have hne : (C ++ [p]).isEmpty = false := by cases C <;> rfl
      rw [hne] at h3
      unfold folB at h3
      rw [if_pos e] at h3
      simp at h3
      omega
    · exact .inr e
/-! as text -/
/-- how many words begin: at the first byte, and behind each blank; b: the byte before is a blank, or none is -/
def words : List UInt8 → Bool → Int
  | [], _ => 0
  | c :: l, b => (if b then 1 else 0) + words l (c == 32)
theorem words_le (l : List UInt8) (b : Bool) : 0 ≤ words l b ∧ words l b ≤ l.length := by
  induction l generalizing b with
  | nil => simp [words]
  | cons c l ih => have := ih (c == 32); simp only [words, List.length_cons]; split <;> omega
theorem words_word (w r : List UInt8) (hw : w ≠ []) (h : ∀ c ∈ w, c ≠ 32) (b : Bool) : words (w ++ r) b = (if b then 1 else 0) + words r false := by
  induction w generalizing b with
  | nil => exact absurd rfl hw
  | cons c w ih =>
    have hc : (c == 32) = false := by simpa using h c List.mem_cons_self
    simp only [List.cons_append, words, hc]
    cases w with
    | nil => rfl
    | cons d w => rw [ih (by simp) (fun x hx => h x (List.mem_cons_of_mem _ hx)) false]; simp
theorem words_join (x : List UInt8) (r : List (List UInt8)) (h : ∀ w ∈ x :: r, w ≠ [] ∧ ∀ c ∈ w, c ≠ 32) : words (Lib.join (x :: r) [32]) true = ((x :: r).length : Nat) := by
  rw [Lib.join_cons]
  have hx := h x List.mem_cons_self
  rw [words_word x _ hx.1 hx.2]
  have key : ∀ r : List (List UInt8), (∀ w ∈ r, w ≠ [] ∧ ∀ c ∈ w, c ≠ 32) → words (Lib.joinTail [32] r) false = (r.length : Nat) := by
    intro r
    induction r with
    | nil => intro _; rfl
    | cons y r ih =>
      intro hr
      have hy := hr y List.mem_cons_self
      have : Lib.joinTail [32] (y :: r) = 32 :: (y ++ Lib.joinTail [32] r) := by simp [Lib.joinTail]
      rw [this]
      simp only [words]
      rw [show ((32 : UInt8) == 32) = true from rfl, words_word y _ hy.1 hy.2, ih (fun w hw => hr w (List.mem_cons_of_mem _ hw))]
      simp
      omega
  rw [key r (fun w hw => h w (List.mem_cons_of_mem _ hw))]
  simp
  omega
theorem join_inj : ∀ (xs ys : List (List UInt8)), (∀ w ∈ xs, w ≠ [] ∧ ∀ c ∈ w, c ≠ 32) → (∀ w ∈ ys, w ≠ [] ∧ ∀ c ∈ w, c ≠ 32) → Lib.join xs [32] = Lib.join ys [32] → xs = ys := by
  have head : ∀ (x y r s : List UInt8), (∀ c ∈ x, c ≠ 32) → (∀ c ∈ y, c ≠ 32) → (r = [] ∨ ∃ t, r = 32 :: t) → (s = [] ∨ ∃ t, s = 32 :: t) → x ++ r = y ++ s → x = y ∧ r = s := by
    intro x
    induction x with
    | nil =>
      intro y r s _ hy hr hs e
      cases y with
      | nil => exact ⟨rfl, e⟩
      | cons c y =>
        exfalso
        rcases hr with rfl | ⟨t, rfl⟩
        · simp at e
        · simp at e; exact hy c List.mem_cons_self e.1.symm
    | cons a x ih =>
      intro y r s hx hy hr hs e
      cases y with
      | nil =>
        exfalso
        rcases hs with rfl | ⟨t, rfl⟩
        · simp at e
        · simp at e; exact hx a List.mem_cons_self e.1
      | cons b y =>
        simp only [List.cons_append, List.cons.injEq] at e
        obtain ⟨h1, h2⟩ := ih y r s (fun c hc => hx c (List.mem_cons_of_mem _ hc)) (fun c hc => hy c (List.mem_cons_of_mem _ hc)) hr hs e.2
        exact ⟨by rw [e.1, h1], h2⟩
  have tail : ∀ r : List (List UInt8), Lib.joinTail [32] r = [] ∨ ∃ t, Lib.joinTail [32] r = 32 :: t := by
    intro r
    cases r with
    | nil => exact .inl rfl
    | cons y r => exact .inr ⟨y ++ Lib.joinTail [32] r, by simp [Lib.joinTail]⟩
  have tails : ∀ r s : List (List UInt8), (∀ w ∈ r, ∀ c ∈ w, c ≠ 32) → (∀ w ∈ s, ∀ c ∈ w, c ≠ 32) → Lib.joinTail [32] r = Lib.joinTail [32] s → r = s := by
    intro r
    induction r with
    | nil =>
      intro s _ _ e
      cases s with
      | nil => rfl
      | cons y s => simp [Lib.joinTail] at e
    | cons x r ih =>
      intro s hr hs e
      cases s with
      | nil => simp [Lib.joinTail] at e
      | cons y s =>
        have e2 : x ++ Lib.joinTail [32] r = y ++ Lib.joinTail [32] s := by
          have := e
          simp only [Lib.joinTail, List.map_cons, List.flatten_cons, List.cons_append, List.nil_append, List.cons.injEq, true_and] at this
          exact this
        obtain ⟨h1, h2⟩ := head x y _ _ (hr x List.mem_cons_self) (hs y List.mem_cons_self) (tail r) (tail s) e2
        rw [h1, ih s (fun w hw => hr w (List.mem_cons_of_mem _ hw)) (fun w hw => hs w (List.mem_cons_of_mem _ hw)) h2]
  intro xs ys hx hy e
  cases xs with
  | nil =>
    cases ys with
    | nil => rfl
    | cons y s =>
      exfalso
      rw [Lib.join_cons] at e
      have : y = [] := by
        have h0 : Lib.join [] [32] = [] := rfl
        rw [h0] at e
        exact (List.append_eq_nil_iff.1 e.symm).1
      exact (hy y List.mem_cons_self).1 this
  | cons x r =>
    cases ys with
    | nil =>
      exfalso
      rw [Lib.join_cons] at e
      exact (hx x List.mem_cons_self).1 (List.append_eq_nil_iff.1 e).1
    | cons y s =>
      rw [Lib.join_cons, Lib.join_cons] at e
      obtain ⟨h1, h2⟩ := head x y _ _ (hx x List.mem_cons_self).2 (hy y List.mem_cons_self).2 (tail r) (tail s) e
      rw [h1, tails r s (fun w hw => (hx w (List.mem_cons_of_mem _ hw)).2) (fun w hw => (hy w (List.mem_cons_of_mem _ hw)).2) h2]
/-- a token's word as bytes -/
def tb (x : P) : List UInt8 := (HShow.tok x).data.toList
theorem tb_eq (x : P) : tb x = if x.1 = 0 then 115 :: Lib.itoa x.2 else if x.1 = 5 then 114 :: Lib.itoa x.2 else (word x.1).data.toList := by
  obtain ⟨k, n⟩ := x
  unfold tb HShow.tok
  simp only []
  by_cases h0 : k = 0
  · subst h0
    rw [if_pos (.inl rfl), if_pos rfl]
    simp [word]
  · by_cases h5 : k = 5
    · subst h5
      rw [if_pos (.inr rfl), if_neg (by decide), if_pos rfl]
      simp [word]
    · rw [if_neg (by omega), if_neg h0, if_neg h5]
theorem tb_word (x : P) : tb x ≠ [] ∧ ∀ c ∈ tb x, c ≠ 32 := by
  rw [tb_eq]
  have hi : ∀ c ∈ Lib.itoa x.2, c ≠ 32 := fun c hc => by
    rintro rfl
    exact itoa_no (by decide) (.inl (by decide)) hc
  split
  · exact ⟨by simp, fun c hc => by
      rcases List.mem_cons.1 hc with h | h
      · subst h; decide
      · exact hi c h⟩
  · split
    · exact ⟨by simp, fun c hc => by
        rcases List.mem_cons.1 hc with h | h
        · subst h; decide
        · exact hi c h⟩
    · unfold word
      repeat' split
      all_goals exact ⟨by simp, by decide⟩
theorem shown_eq (L : List P) : shown L = Lib.join (L.map tb) [32] := by
  unfold shown
  rw [List.map_map]
  rfl
theorem shown_words (L : List P) : words (shown L) true = (L.length : Nat) := by
  rw [shown_eq]
  cases L with
  | nil => rfl
  | cons t L =>
    rw [List.map_cons, words_join]
    · simp
    · intro w hw
      rw [← List.map_cons, List.mem_map] at hw
      obtain ⟨x, _, rfl⟩ := hw
      exact tb_word x
theorem tb_le (x : P) (h : -9223372036854775808 ≤ x.2 ∧ x.2 ≤ 9223372036854775807) : (tb x).length ≤ 22 := by
  have := Lib.itoa_length_le x.2 h.1 h.2
  rw [tb_eq]
  split
  · simp; omega
  · split
    · simp; omega
    · unfold word
      repeat' split
      all_goals decide
theorem shown_le (L : List P) (h : ∀ x ∈ L, -9223372036854775808 ≤ x.2 ∧ x.2 ≤ 9223372036854775807) : (shown L).length ≤ 23 * L.length := by
  rw [shown_eq]
  cases L with
  | nil => decide
  | cons t L =>
    rw [List.map_cons, Lib.join_length]
    have key : ∀ M : List P, (∀ x ∈ M, -9223372036854775808 ≤ x.2 ∧ x.2 ≤ 9223372036854775807) → Lib.lens (M.map tb) ≤ 22 * M.length := by
      intro M
      induction M with
      | nil => intro _; decide
      | cons y M ih =>
        intro hM
        have h1 := tb_le y (hM y List.mem_cons_self)
        have h2 := ih (fun x hx => hM x (List.mem_cons_of_mem _ hx))
        unfold Lib.lens at h2 ⊢
        simp only [List.map_cons, List.sum_cons, List.length_cons]
        omega
    have := key (t :: L) h
    rw [List.map_cons] at this
    simp only [List.length_cons, List.length_map, List.length_nil] at this ⊢
    omega
theorem fits_kind {t : P} {m : Int} (h : fitsB t m = true) : 0 ≤ t.1 ∧ t.1 ≤ 5 ∧ (t.1 ≠ 0 → t.1 ≠ 5 → t.2 = 0) := by
  unfold fitsB at h
  split at h
  · exact ⟨by omega, by omega, fun h0 => by omega⟩
  · split at h
    · exact ⟨by omega, by omega, fun _ h5 => by omega⟩
    · simp at h
      exact ⟨by omega, by omega, fun _ _ => h.2.2⟩
theorem tb_inj {x y : P} (hx : 0 ≤ x.1 ∧ x.1 ≤ 5 ∧ (x.1 ≠ 0 → x.1 ≠ 5 → x.2 = 0)) (hy : 0 ≤ y.1 ∧ y.1 ≤ 5 ∧ (y.1 ≠ 0 → y.1 ≠ 5 → y.2 = 0)) (h : tb x = tb y) : x = y := by
  obtain ⟨a, n⟩ := x
  obtain ⟨b, m⟩ := y
  simp only [] at hx hy
  have ha : a = 0 ∨ a = 1 ∨ a = 2 ∨ a = 3 ∨ a = 4 ∨ a = 5 := by omega
  have hb : b = 0 ∨ b = 1 ∨ b = 2 ∨ b = 3 ∨ b = 4 ∨ b = 5 := by omega
  rw [tb_eq, tb_eq] at h
  rcases ha with rfl | rfl | rfl | rfl | rfl | rfl <;> rcases hb with rfl | rfl | rfl | rfl | rfl | rfl <;> simp [word] at h hx hy <;> first
    | (have := itoa_inj h; subst this; rfl)
    | (obtain rfl := hx; obtain rfl := hy; rfl)
    | (exact absurd h.1 (by decide))
theorem ok_kinds (L : List P) (f : Bool) (m : Int) (last : P) (h : ok L f m last = true) : ∀ t ∈ L, 0 ≤ t.1 ∧ t.1 ≤ 5 ∧ (t.1 ≠ 0 → t.1 ≠ 5 → t.2 = 0) := by
  induction L generalizing f m last with
  | nil => intro t ht; cases ht
  | cons a L ih =>
    unfold ok here at h
    rw [Bool.and_eq_true, Bool.and_eq_true] at h
    intro t ht
    rcases List.mem_cons.1 ht with rfl | ht
    · exact fits_kind h.1.1
    · exact ih _ _ _ h.2 t ht
theorem right_kinds {L : List P} (h : right L = true) : ∀ t ∈ L, 0 ≤ t.1 ∧ t.1 ≤ 5 ∧ (t.1 ≠ 0 → t.1 ≠ 5 → t.2 = 0) := by
  unfold right at h
  rw [Bool.and_eq_true] at h
  exact ok_kinds _ _ _ _ h.1
theorem shown_inj {L M : List P} (hL : right L = true) (hM : right M = true) (h : shown L = shown M) : L = M := by
  rw [shown_eq, shown_eq] at h
  have hw : ∀ N : List P, ∀ w ∈ N.map tb, w ≠ [] ∧ ∀ c ∈ w, c ≠ 32 := fun N w hw => by
    rw [List.mem_map] at hw
    obtain ⟨x, _, rfl⟩ := hw
    exact tb_word x
  have e := join_inj _ _ (hw L) (hw M) h
  have kl := right_kinds hL
  have km := right_kinds hM
  clear hL hM h
  induction L generalizing M with
  | nil =>
    cases M with
    | nil => rfl
    | cons y M => simp at e
  | cons x L ih =>
    cases M with
    | nil => simp at e
    | cons y M =>
      simp only [List.map_cons, List.cons.injEq] at e
      rw [tb_inj (kl x List.mem_cons_self) (km y List.mem_cons_self) e.1, ih e.2 (fun t ht => kl t (List.mem_cons_of_mem _ ht)) (fun t ht => km t (List.mem_cons_of_mem _ ht))]
end Go.Proofs.YtdlgceepanegdaaDoor.HSpec
