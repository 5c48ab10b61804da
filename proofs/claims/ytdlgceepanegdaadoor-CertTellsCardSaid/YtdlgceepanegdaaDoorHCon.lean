/- What the program's functions over tokens answer: their contracts in the words of HSpec. -/
import Derived.Test.YtdlgceepanegdaaDoorQ3
import Derived.Test.YtdlgceepanegdaaDoorQ5
import Derived.Test.YtdlgceepanegdaaDoorQ8
import Derived.Test.YtdlgceepanegdaaDoorQ9
import Derived.Test.YtdlgceepanegdaaDoorQ11
import Derived.Test.YtdlgceepanegdaaDoorQ13
import Derived.Test.YtdlgceepanegdaaDoorQ15
import Derived.Test.YtdlgceepanegdaaDoorHSpec
namespace Go.Proofs.YtdlgceepanegdaaDoor.HCon
open Go.RowKit HAppd HAppC HShow HSpec Q Go.Proofs.YtdlgceepanegdaaDoorW.PrintWords Go.Proofs.YtdlgceepanegdaaDoorW.PrintLast Go.Proofs.YtdlgceepanegdaaDoorW.PrintMore
set_option linter.unusedVariables false
set_option linter.unusedSimpArgs false
def T (L : List P) : List S24 := L.map fun p => ⟨p.1, p.2⟩
def U (L : List P) : List S36 := L.map fun p => ⟨p.1, p.2⟩
theorem T_len (L : List P) : (T L).length = L.length := List.length_map _
theorem U_len (L : List P) : (U L).length = L.length := List.length_map _
theorem rdT {L A B : List P} {t : P} (h : L = A ++ t :: B) : rd_T24 (T L) (A.length : Int) = ⟨t.1, t.2⟩ := by
  subst h
  unfold rd_T24 T
  rw [Int.toNat_natCast, List.getD_eq_getElem?_getD, List.getElem?_map, List.getElem?_append_right (Nat.le_refl _), Nat.sub_self]
  rfl
theorem rdU {L A B : List P} {t : P} (h : L = A ++ t :: B) : rd_T36 (U L) (A.length : Int) = ⟨t.1, t.2⟩ := by
  subst h
  unfold rd_T36 U
  rw [Int.toNat_natCast, List.getD_eq_getElem?_getD, List.getElem?_map, List.getElem?_append_right (Nat.le_refl _), Nat.sub_self]
  rfl
theorem skips_f (n : Int) : cert_skips.f n = some (skp n) := by
  unfold cert_skips.f skp
  by_cases h : n ≥ 1
  · rw [if_pos h, decide_eq_true (show 1 ≤ n from h), Bool.true_and]
  · rw [if_neg h, decide_eq_false (show ¬ 1 ≤ n from h), Bool.false_and]
theorem fits_f (a b m : Int) : cert_Token_fits.f a b m = some (fitsB (a, b) m) := by
  unfold cert_Token_fits.f fitsB
  simp only []
  by_cases h : a = 0
  · rw [if_pos h, if_pos h, skips_f]; rfl
  · rw [if_neg h, if_neg h]
    by_cases h5 : a = 5
    · rw [if_pos h5, if_pos h5]
      by_cases h6 : b ≥ 0
      · rw [if_pos h6, decide_eq_true h6, Bool.true_and]
      · rw [if_neg h6, decide_eq_false h6, Bool.false_and]
    · rw [if_neg h5, if_neg h5]
      by_cases h6 : a > 0
      · rw [if_pos h6, decide_eq_true h6, Bool.true_and]
        by_cases h7 : a < 6
        · rw [if_pos h7, decide_eq_true h7, Bool.true_and]
        · rw [if_neg h7, decide_eq_false h7, Bool.false_and]
      · rw [if_neg h6, decide_eq_false h6, Bool.false_and]
theorem fol_f (a b : P) : cert_follows.f a.1 a.2 b.1 b.2 = some (folB a b) := by
  unfold cert_follows.f folB
  by_cases h : a.1 = 0
  · rw [if_pos h, if_pos h]
  · rw [if_neg h, if_neg h]
    by_cases h4 : a.1 = 4
    · rw [if_pos h4, if_pos h4]
      by_cases h2 : b.1 = 2
      · rw [if_pos h2, h2]; rfl
      · rw [if_neg h2, show (b.1 == 2) = false by simpa using h2, Bool.false_or]
    · rw [if_neg h4, if_neg h4]
theorem wr {n : Nat} (h : n ≤ 1000) : wrap64 ((n : Int) + 1) = ((n + 1 : Nat) : Int) := by unfold wrap64; omega
theorem right_l0 (L : List P) (hL : L.length ≤ 1000) : ∀ (B A : List P) (k : Nat) (m : Int) (last : P), L = A ++ B → 2 * B.length < k → 0 ≤ m → m ≤ A.length →
    cert_Right.l0 k (T L) m (T L) (L.length : Int) (A.length : Int) last.1 last.2 = some (ok B A.isEmpty m last && (L.isEmpty || ((B.getLastD last).1 != 4))) := by
  intro B
  induction B with
  | nil =>
    intro A k m last h hk h0 h1
    obtain ⟨k, rfl⟩ : ∃ j, k = j + 1 := ⟨k - 1, by omega⟩
    simp only [cert_Right.l0]
    have hl : L.length = A.length := by rw [h]; simp
    rw [if_neg (by omega)]
    cases L with
    | nil => rfl
    | cons x L => rw [if_neg (by rw [T_len, List.length_cons]; omega)]; simp [ok]
  | cons t B ih =>
    intro A k m last h hk h0 h1
    rw [List.length_cons] at hk
    obtain ⟨k, rfl⟩ : ∃ j, k = j + 2 := ⟨k - 2, by omega⟩
    have hl : L.length = A.length + (B.length + 1) := by rw [h]; simp
    have hne : L.isEmpty = false := by cases L with
      | nil => simp at hl
      | cons x L => rfl
    have ihn := ih (A ++ [t]) k (m + mk t) t (by rw [h]; simp) (by omega) (by have := mk_le t; omega) (by have := mk_le t; simp; omega)
    rw [show (A ++ [t]).isEmpty = false by cases A <;> rfl, hne, Bool.false_or] at ihn
    rw [hne, Bool.false_or, List.getLastD_cons]
    rw [show (((A ++ [t]).length : Nat) : Int) = ((A.length + 1 : Nat) : Int) by simp, ← wr (by omega)] at ihn
    have j1 : ∀ b : Bool, cert_Right.j1 (k + 1) (T L) m (T L) (L.length : Int) (A.length : Int) b t.1 t.2 = some (!b && (ok B false (m + mk t) t && ((B.getLastD t).1 != 4))) := by
      intro b
      simp only [cert_Right.j1]
      cases b with
      | true => rw [if_pos rfl]; rfl
      | false =>
        rw [if_neg (by decide)]
        by_cases h4 : t.1 = 4
        · rw [if_pos h4]
          rw [show mk t = 1 by unfold mk; rw [if_pos h4]] at ihn ⊢
          rw [show wrap64 (m + 1) = m + 1 by unfold wrap64; omega, ihn]
          rfl
        · rw [if_neg h4]
          rw [show mk t = 0 by unfold mk; rw [if_neg h4], Int.add_zero] at ihn ⊢
          rw [ihn]
          rfl
    simp only [cert_Right.l0]
    rw [if_pos (by omega), if_pos (by omega), if_pos (by rw [T_len]; omega), rdT h]
    simp only []
    rw [fits_f]
    simp only [Option.bind_some]
    unfold ok here
    cases hf : fitsB (t.1, t.2) m with
    | false => rw [if_neg (by decide)]; simp
    | true =>
      rw [if_pos rfl]
      cases A with
      | nil =>
        rw [if_pos (by rfl)]
        by_cases ht : t.1 > 1
        · rw [if_pos ht, j1]; simp [ht]
        · rw [if_neg ht, if_neg (by simp), j1]; simp [ht]
      | cons a A =>
        rw [if_neg (by rw [List.length_cons]; omega), if_pos (by rw [List.length_cons]; omega), fol_f last t]
        simp only [Option.bind_some]
        rw [j1]
        simp [Bool.and_assoc]
theorem right_f (L : List P) (hL : L.length ≤ 1000) : cert_Right.f 2001 (T L) = some (right L) := by
  unfold cert_Right.f
  rw [if_neg (by rw [T_len]; omega), T_len]
  have := right_l0 L hL L [] 2001 0 (4, 0) rfl (by omega) (by omega) (by simp)
  rw [show (0 : Int) = (([] : List P).length : Int) from rfl]
  exact this
theorem marks_l0 (L : List P) (hL : L.length ≤ 1000) : ∀ (B A : List P) (k : Nat) (n : Int), L = A ++ B → B.length < k → 0 ≤ n → n ≤ A.length → cert_Marks.l0 k n (T L) (L.length : Int) (A.length : Int) = some (n + marks B) := by
  intro B
  induction B with
  | nil =>
    intro A k n h hk h0 h1
    obtain ⟨k, rfl⟩ : ∃ j, k = j + 1 := ⟨k - 1, by omega⟩
    have hl : L.length = A.length := by rw [h]; simp
    simp only [cert_Marks.l0]
    rw [if_neg (by omega)]
    simp [marks]
  | cons t B ih =>
    intro A k n h hk h0 h1
    rw [List.length_cons] at hk
    obtain ⟨k, rfl⟩ : ∃ j, k = j + 1 := ⟨k - 1, by omega⟩
    have hl : L.length = A.length + (B.length + 1) := by rw [h]; simp
    have ihn := ih (A ++ [t]) k (n + mk t) (by rw [h]; simp) (by omega) (by have := mk_le t; omega) (by have := mk_le t; simp; omega)
    rw [show (((A ++ [t]).length : Nat) : Int) = ((A.length + 1 : Nat) : Int) by simp, ← wr (by omega)] at ihn
    simp only [cert_Marks.l0]
    rw [if_pos (by omega), if_pos (by omega), if_pos (by rw [T_len]; omega), rdT h]
    simp only [marks]
    by_cases h4 : t.1 = 4
    · rw [show mk t = 1 by unfold mk; rw [if_pos h4]] at ihn ⊢
      rw [if_pos h4, show wrap64 (n + 1) = n + 1 by unfold wrap64; omega, ihn, Int.add_assoc]
    · rw [show mk t = 0 by unfold mk; rw [if_neg h4]] at ihn ⊢
      rw [if_neg h4, Int.zero_add]
      rw [Int.add_zero] at ihn
      exact ihn
theorem marks_f (L : List P) (hL : L.length ≤ 1000) : cert_Marks.f 1001 (T L) = some (marks L) := by
  unfold cert_Marks.f
  rw [T_len]
  have := marks_l0 L hL L [] 1001 0 rfl (by omega) (by omega) (by simp)
  rw [Int.zero_add] at this
  exact this
theorem places_l0 (L : List P) (hL : L.length ≤ 1000) : ∀ (B A : List P) (k : Nat) (n : Int), L = A ++ B → B.length < k → 0 ≤ n → n ≤ 10001 * A.length → cert_Places.l0 k n (T L) (L.length : Int) (A.length : Int) = some (n + places B) := by
  intro B
  induction B with
  | nil =>
    intro A k n h hk h0 h1
    obtain ⟨k, rfl⟩ : ∃ j, k = j + 1 := ⟨k - 1, by omega⟩
    have hl : L.length = A.length := by rw [h]; simp
    simp only [cert_Places.l0]
    rw [if_neg (by omega)]
    simp [places]
  | cons t B ih =>
    intro A k n h hk h0 h1
    rw [List.length_cons] at hk
    obtain ⟨k, rfl⟩ : ∃ j, k = j + 1 := ⟨k - 1, by omega⟩
    have hl : L.length = A.length + (B.length + 1) := by rw [h]; simp
    have hpl := pl_le t
    have ihn := ih (A ++ [t]) k (n + pl t) (by rw [h]; simp) (by omega) (by omega) (by simp; omega)
    rw [show (((A ++ [t]).length : Nat) : Int) = ((A.length + 1 : Nat) : Int) by simp, ← wr (by omega)] at ihn
    simp only [cert_Places.l0]
    rw [if_pos (by omega), if_pos (by omega), if_pos (by rw [T_len]; omega), rdT h]
    simp only [places]
    have hw : wrap64 (n + pl t) = n + pl t := by unfold wrap64; omega
    by_cases h1 : t.1 = 1
    · have e : pl t = 1 := by unfold pl; rw [if_pos h1]
      rw [e] at ihn hw ⊢
      rw [if_pos h1, hw, ihn, Int.add_assoc]
    · rw [if_neg h1]
      by_cases h2 : t.1 = 0
      · rw [if_pos h2, skips_f]
        simp only [Option.bind_some]
        cases hs : skp t.2 with
        | true =>
          have e : pl t = t.2 := by unfold pl; rw [if_neg h1, if_pos h2, if_pos hs]
          rw [e] at ihn hw ⊢
          rw [if_pos rfl, hw, ihn, Int.add_assoc]
        | false =>
          have e : pl t = 0 := by unfold pl; rw [if_neg h1, if_pos h2, if_neg (by rw [hs]; decide)]
          rw [e] at ihn ⊢
          rw [if_neg (by decide), Int.zero_add]
          rw [Int.add_zero] at ihn
          exact ihn
      · have e : pl t = 0 := by unfold pl; rw [if_neg h1, if_neg h2]
        rw [e] at ihn ⊢
        rw [if_neg h2, Int.zero_add]
        rw [Int.add_zero] at ihn
        exact ihn
theorem places_f (L : List P) (hL : L.length ≤ 1000) : cert_Places.f 1001 (T L) = some (places L) := by
  unfold cert_Places.f
  rw [T_len]
  have := places_l0 L hL L [] 1001 0 rfl (by omega) (by omega) (by simp)
  rw [Int.zero_add] at this
  exact this
theorem U_snoc (A : List P) (t : P) : U (A ++ [t]) = U A ++ [⟨t.1, t.2⟩] := by simp [U]
theorem ref_l0 (L : List P) (hL : L.length ≤ 1000) (most : Nat) : ∀ (B A : List P) (k : Nat), L = A ++ B → B.length < k → A.length ≤ most → clewlaw15_Ref.l0 k (T L) (most : Int) (U A) (A.length : Int) = some (U (L.take most)) := by
  intro B
  induction B with
  | nil =>
    intro A k h hk hm
    obtain ⟨k, rfl⟩ : ∃ j, k = j + 1 := ⟨k - 1, by omega⟩
    rw [List.append_nil] at h
    subst h
    simp only [clewlaw15_Ref.l0]
    rw [if_neg (by rw [T_len]; omega), List.take_of_length_le hm]
  | cons t B ih =>
    intro A k h hk hm
    rw [List.length_cons] at hk
    obtain ⟨k, rfl⟩ : ∃ j, k = j + 1 := ⟨k - 1, by omega⟩
    have hl : L.length = A.length + (B.length + 1) := by rw [h]; simp
    simp only [clewlaw15_Ref.l0]
    rw [if_pos (by rw [T_len]; omega)]
    by_cases hlt : A.length < most
    · rw [if_pos (by omega), if_pos (by omega), if_pos (by rw [U_len]; omega), rdT h]
      simp only []
      rw [← U_snoc, wr (by omega)]
      have := ih (A ++ [t]) k (by rw [h]; simp) (by omega) (by simp; omega)
      rw [show (((A ++ [t]).length : Nat) : Int) = ((A.length + 1 : Nat) : Int) by simp] at this
      exact this
    · obtain rfl : most = A.length := by omega
      rw [if_neg (by omega), h]
      simp
theorem ref_f (L : List P) (hL : L.length ≤ 1000) (most : Nat) : clewlaw15_Ref.f 1001 (T L) (most : Int) = some (U (L.take most)) :=
  ref_l0 L hL most L [] 1001 rfl (by omega) (by simp)
theorem same_l0 (L M : List P) (hL : L.length ≤ 1000) (hLM : L.length = M.length) : ∀ (B D A C : List P) (k : Nat), L = A ++ B → M = C ++ D → A.length = C.length → B.length < k → clewref15_Same.l0 k (U L) (U M) (A.length : Int) = some (decide (B = D)) := by
  intro B
  induction B with
  | nil =>
    intro D A C k h h' hAC hk
    obtain ⟨k, rfl⟩ : ∃ j, k = j + 1 := ⟨k - 1, by omega⟩
    have hl : L.length = A.length := by rw [h]; simp
    have hm : M.length = C.length + D.length := by rw [h']; simp
    obtain rfl : D = [] := List.length_eq_zero_iff.1 (by omega)
    simp only [clewref15_Same.l0]
    rw [if_neg (by rw [U_len]; omega)]
    simp
  | cons t B ih =>
    intro D A C k h h' hAC hk
    rw [List.length_cons] at hk
    obtain ⟨k, rfl⟩ : ∃ j, k = j + 1 := ⟨k - 1, by omega⟩
    have hl : L.length = A.length + (B.length + 1) := by rw [h]; simp
    have hm : M.length = C.length + D.length := by rw [h']; simp
    cases D with
    | nil => simp at hm; omega
    | cons u D =>
      simp only [clewref15_Same.l0]
      have rM := rdU h'
      rw [← hAC] at rM
      rw [if_pos (by rw [U_len]; omega), if_pos (by omega), if_pos (by rw [U_len]; omega), rdU h, rM]
      simp only []
      by_cases e : t = u
      · subst e
        rw [if_neg (by simp), wr (by omega)]
        have := ih D (A ++ [t]) (C ++ [t]) k (by rw [h]; simp) (by rw [h']; simp) (by simp; omega) (by omega)
        rw [show (((A ++ [t]).length : Nat) : Int) = ((A.length + 1 : Nat) : Int) by simp] at this
        rw [this]
        simp
      · rw [if_pos (by
          obtain ⟨a, b⟩ := t
          obtain ⟨c, d⟩ := u
          simp at e ⊢
          by_cases h1 : a = c
          · exact .inr (e h1)
          · exact .inl h1)]
        simp [e]
theorem same_f (L M : List P) (hL : L.length ≤ 1000) (hM : M.length ≤ 1000) : clewref15_Same.f 1001 (U L) (U M) = some (decide (L = M)) := by
  unfold clewref15_Same.f
  rw [U_len, U_len]
  by_cases h : L.length = M.length
  · rw [if_pos (by omega)]
    exact same_l0 L M hL h L M [] [] 1001 rfl rfl rfl (by omega)
  · rw [if_neg (by omega), decide_eq_false (fun e => h (by rw [e]))]
/-! the contracts -/
/-- the tokens L lie at A -/
def Ro (w : World) (A : Option Addr) (L : List P) : Prop := 0 < L.length → ∃ ad, A = some ad ∧ ∀ q p, L[q]? = some p → w.cell? (ad.add (q * 2)) = some (.int .i64 p.1) ∧ w.cell? (ad.add (q * 2 + 1)) = some (.int .i64 p.2)
theorem Ro.below {w w' : World} {A : Option Addr} {L : List P} (h : Ro w A L) (hb : Below w.heap.size w w') : Ro w' A L := fun hl => by
  obtain ⟨ad, e, hc⟩ := h hl
  exact ⟨ad, e, fun q p hq => ⟨CMem.below_of hb (hc q p hq).1, CMem.below_of hb (hc q p hq).2⟩⟩
theorem Ro.take {w : World} {A : Option Addr} {L : List P} (h : Ro w A L) (n : Nat) : Ro w A (L.take n) := fun hl => by
  obtain ⟨ad, e, hc⟩ := h (by rw [List.length_take] at hl; omega)
  refine ⟨ad, e, fun q p hq => hc q p ?_⟩
  rw [List.getElem?_take] at hq
  split at hq
  · exact hq
  · cases hq
theorem Ro.nil (w : World) (A : Option Addr) : Ro w A [] := fun h => absurd h (by simp)
theorem Ro.c24 {w : World} {A : Option Addr} {L : List P} (h : Ro w A L) (hl : L.length ≤ 1000) : Kd.C k24 w A (T L).length (T L) := by
  refine ⟨rfl, by rw [T_len]; omega, fun h0 => ?_⟩
  obtain ⟨ad, e, hc⟩ := h (by rw [T_len] at h0; exact h0)
  refine ⟨ad, e, fun j x hj => ⟨[.int .i64 x.f0, .int .i64 x.f1], rfl, k24_mk _ _, fun i u hi => ?_⟩⟩
  unfold T at hj
  rw [List.getElem?_map, Option.map_eq_some_iff] at hj
  obtain ⟨p, hp, rfl⟩ := hj
  match i, hi with
  | 0, hi => simp at hi; subst hi; exact (hc j p hp).1
  | 1, hi => simp at hi; subst hi; exact (hc j p hp).2
  | i + 2, hi => simp at hi
theorem Ro.c36 {w : World} {A : Option Addr} {L : List P} (h : Ro w A L) (hl : L.length ≤ 1000) : Kd.C k36 w A (U L).length (U L) := by
  refine ⟨rfl, by rw [U_len]; omega, fun h0 => ?_⟩
  obtain ⟨ad, e, hc⟩ := h (by rw [U_len] at h0; exact h0)
  refine ⟨ad, e, fun j x hj => ⟨[.int .i64 x.f0, .int .i64 x.f1], rfl, k36_mk _ _, fun i u hi => ?_⟩⟩
  unfold U at hj
  rw [List.getElem?_map, Option.map_eq_some_iff] at hj
  obtain ⟨p, hp, rfl⟩ := hj
  match i, hi with
  | 0, hi => simp at hi; subst hi; exact (hc j p hp).1
  | 1, hi => simp at hi; subst hi; exact (hc j p hp).2
  | i + 2, hi => simp at hi
theorem Ro.of24 {w : World} {A : Option Addr} {n : Nat} {L : List P} (h : Kd.C k24 w A n (T L)) : Ro w A L := fun hl => by
  obtain ⟨ad, e, hc⟩ := h.2.2 (by rw [← h.1, T_len]; exact hl)
  refine ⟨ad, e, fun q p hq => ?_⟩
  obtain ⟨c, _, hk, hcell⟩ := hc q ⟨p.1, p.2⟩ (by unfold T; rw [List.getElem?_map, hq]; rfl)
  obtain rfl := k24_open hk
  exact ⟨hcell 0 _ rfl, hcell 1 _ rfl⟩
theorem Ro.of36 {w : World} {A : Option Addr} {n : Nat} {L : List P} (h : Kd.C k36 w A n (U L)) : Ro w A L := fun hl => by
  obtain ⟨ad, e, hc⟩ := h.2.2 (by rw [← h.1, U_len]; exact hl)
  refine ⟨ad, e, fun q p hq => ?_⟩
  obtain ⟨c, _, hk, hcell⟩ := hc q ⟨p.1, p.2⟩ (by unfold U; rw [List.getElem?_map, hq]; rfl)
  obtain rfl := k36_open hk
  exact ⟨hcell 0 _ rfl, hcell 1 _ rfl⟩
section
variable {w : World} {A : Option Addr} {L : List P} (h : Ro w A L) {n c : Nat} (hn : L.length = n) (hl : n ≤ 1000) (hc : n ≤ c)
include h hn hl hc
theorem c_right : Calls Tryd.prog 10 #[.slice A n c] w fun e w' => e = .returned (.bool (right L)) ∧ Below w.heap.size w w' := by
  subst hn
  have := cert_Right.calls 2001 A c (T L) (right L) w (h.c24 hl) (by rw [T_len]; exact hc) (right_f L hl)
  rw [T_len] at this
  exact this
theorem c_marks : Calls Tryd.prog 12 #[.slice A n c] w fun e w' => e = .returned (.int .i64 (marks L)) ∧ Below w.heap.size w w' := by
  subst hn
  have := cert_Marks.calls 1001 A c (T L) (marks L) w (h.c24 hl) (by rw [T_len]; exact hc) (marks_f L hl)
  rw [T_len] at this
  exact this
theorem c_places : Calls Tryd.prog 14 #[.slice A n c] w fun e w' => e = .returned (.int .i64 (places L)) ∧ Below w.heap.size w w' := by
  subst hn
  have := cert_Places.calls 1001 A c (T L) (places L) w (h.c24 hl) (by rw [T_len]; exact hc) (places_f L hl)
  rw [T_len] at this
  exact this
theorem c_ref (most : Nat) : Calls Tryd.prog 8 #[.slice A n c, .int .i64 (most : Int)] w fun e w' => (∃ B d, e = .returned (.slice B (L.take most).length d) ∧ (L.take most).length ≤ d ∧ Ro w' B (L.take most)) ∧ Below w.heap.size w w' := by
  subst hn
  have := clewlaw15_Ref.calls 1001 A c (T L) (most : Int) _ w (h.c24 hl) (by rw [T_len]; exact hc) (ref_f L hl most)
  rw [T_len] at this
  refine this.mono ?_
  rintro e w' ⟨v, rfl, hr, hb⟩
  obtain ⟨B, d, rfl, hd⟩ := hr.2.slice_
  obtain ⟨B', d', e', hd', hrd⟩ := hr.2.reads
  obtain ⟨rfl, _, rfl⟩ : B = B' ∧ _ ∧ d = d' := by injection e' with e1 e2 e3; exact ⟨e1, trivial, e3⟩
  rw [U_len] at hd
  refine ⟨⟨B, d, by rw [U_len], hd, Ro.of36 (w := w') (n := (U (L.take most)).length) ?_⟩, hb⟩
  exact ⟨hrd.1, hrd.2.1, fun h0 => by
    obtain ⟨ad, ea, hx⟩ := hrd.2.2 h0
    exact ⟨ad, ea, fun j p hp => by
      obtain ⟨cc, h1, h2, h3⟩ := hx j p hp
      exact ⟨cc, h1, k36.K_of_M h2, h3⟩⟩⟩
theorem c_add (t1 t2 : Int) : Calls Tryd.prog 9 #[.slice A n c, .agg #[.int .i64 t1, .int .i64 t2]] w fun e w' => (∃ B d, e = .returned (.slice B (add L (t1, t2)).length d) ∧ (add L (t1, t2)).length ≤ d ∧ Ro w' B (add L (t1, t2))) ∧ Below w.heap.size w w' := by
  subst hn
  have := add_calls A c L t1 t2 L.length rfl hl w (fun h0 => by
    obtain ⟨ad, e, hx⟩ := h h0
    exact ⟨ad, e, fun j u hj => cl_read hx j u hj⟩)
  refine this.mono ?_
  rintro e w' ⟨⟨v, rfl, ho⟩, hb⟩
  refine ⟨?_, hb⟩
  rcases ho.2 with ⟨q2, q3⟩ | ⟨g, cap, cur, q2, q3, q4, q5, q6, q7, q8⟩
  · have h0 : (add L (t1, t2)) = [] := List.length_eq_zero_iff.1 (by first | exact q3 | (rw [q3]) | (have := congrArg List.length q3; rw [cl_length] at this; simp at this; exact List.length_eq_zero_iff.2 this) | (have := ho.1; rw [q3] at this; simp at this; omega))
    rw [h0] at *
    exact ⟨none, 0, by rw [q2]; rfl, by simp, Ro.nil _ _⟩
  · refine ⟨some ⟨g, 0, none⟩, cap, by rw [q2], q5, fun _ => ⟨_, rfl, fun q p hq => ?_⟩⟩
    obtain ⟨c0, c1⟩ := cl_cells _ q p hq
    have hql : q < (add L (t1, t2)).length := (List.getElem?_eq_some_iff.1 hq).1
    subst q2
    have e0 := ho.cellAt (q * 2) (by first | omega | (rw [cl_length]; omega))
    have e1 := ho.cellAt (q * 2 + 1) (by first | omega | (rw [cl_length]; omega))
    rw [c0] at e0
    rw [c1] at e1
    exact ⟨by rw [Go.Lib.add_plain, Nat.zero_add]; exact e0, by rw [Go.Lib.add_plain, Nat.zero_add]; exact e1⟩
end
theorem c_show {w : World} {A : Option Addr} {L : List P} (h : Ro w A L) (hT : Tab w) {n c : Nat} (hn : L.length = n) (hl : n ≤ 60) (hc : n ≤ c) (hI : ∀ x ∈ L, -9223372036854775808 ≤ x.2 ∧ x.2 ≤ 9223372036854775807) :
    Calls Tryd.prog 16 #[.slice A n c] w fun e w' => e = .returned (.string ⟨(shown L).toArray⟩) ∧ Below w.heap.size w w' := by
  subst hn
  have := cert_Show.calls A c (T L) _ w hT (h.c24 (by omega)) (by rw [T_len]; exact hc) (show cert_Show.f (T L) = some ⟨(shown L).toArray⟩ from by
    unfold cert_Show.f
    have e : cert_Show.pr (T L) = L := by unfold cert_Show.pr T; rw [List.map_map]; exact List.map_id _
    rw [e, if_pos (by rw [T_len]; omega), if_pos (List.all_eq_true.2 fun x hx => by have := hI x hx; simp; omega), if_pos (by have := shown_le L hI; omega)])
  rw [T_len] at this
  exact this
theorem c_same {w : World} {A B : Option Addr} {L M : List P} (h : Ro w A L) (h' : Ro w B M) {n m c d : Nat} (hn : L.length = n) (hl : n ≤ 1000) (hc : n ≤ c) (hm : M.length = m) (hl' : m ≤ 1000) (hd : m ≤ d) :
    Calls Tryd.prog 18 #[.slice A n c, .slice B m d] w fun e w' => e = .returned (.bool (decide (L = M))) ∧ Below w.heap.size w w' := by
  subst hn
  subst hm
  have := clewref15_Same.calls 1001 A c (U L) B d (U M) (decide (L = M)) w (h.c36 hl) (by rw [U_len]; exact hc) (h'.c36 hl') (by rw [U_len]; exact hd) (same_f L M hl hl')
  rw [U_len, U_len] at this
  exact this.mono fun e w' hx => ⟨hx.1, hx.2.below⟩
end Go.Proofs.YtdlgceepanegdaaDoor.HCon
