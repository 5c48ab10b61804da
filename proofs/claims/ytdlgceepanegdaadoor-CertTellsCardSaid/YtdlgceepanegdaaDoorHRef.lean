/- What the document's functions over tokens answer: their contracts in the words of HSpec. -/
import Derived.Test.YtdlgceepanegdaaDoorQ7
import Derived.Test.YtdlgceepanegdaaDoorQ10
import Derived.Test.YtdlgceepanegdaaDoorQ12
import Derived.Test.YtdlgceepanegdaaDoorHRefN
import Derived.Test.YtdlgceepanegdaaDoorHCon
namespace Go.Proofs.YtdlgceepanegdaaDoor.HRef
open Go.RowKit HAppd HAppC HShow HSpec HCon HRefN Q Go.Proofs.YtdlgceepanegdaaDoorW.PrintWords Go.Proofs.YtdlgceepanegdaaDoorW.PrintLast Go.Proofs.YtdlgceepanegdaaDoorW.PrintMore
set_option linter.unusedVariables false
set_option linter.unusedSimpArgs false
/-- what stands behind t fits it -/
def nxt (t : P) : List P → Bool
  | [] => t.1 != 4
  | u :: _ => folB t u
/-- as the document tells it: each token with the one behind it -/
def rr : List P → Bool → Int → Bool
  | [], _, _ => true
  | t :: B, f, m => fitsB t m && (!(f && decide (t.1 > 1)) && (nxt t B && rr B false (m + mk t)))
theorem rr_next (B : List P) : ∀ (t : P) (m : Int), (nxt t B && rr B false m) = (ok B false m t && ((B.getLastD t).1 != 4)) := by
  induction B with
  | nil => intro t m; simp [nxt, rr, ok]
  | cons u B ih =>
    intro t m
    have h := ih u (m + mk u)
    simp only [rr, ok, here, List.getLastD_cons, Bool.false_and, Bool.not_false, Bool.true_and]
    rw [h]
    show (folB t u && _) = _
    cases fitsB u m <;> cases folB t u <;> simp
theorem rr_right (L : List P) : rr L true 0 = right L := by
  cases L with
  | nil => rfl
  | cons t B =>
    simp only [rr, Bool.true_and]
    rw [rr_next B t]
    unfold right
    simp only [ok, here, List.getLastD_cons, List.isEmpty_cons, Bool.false_or, if_true]
    rw [← Bool.and_assoc, ← Bool.and_assoc]
theorem skipsR_f (n : Int) : clewref15_skips.f n = some (skp n) := by
  unfold clewref15_skips.f skp
  by_cases h : n ≥ 1
  · rw [if_pos h, decide_eq_true (show 1 ≤ n from h), Bool.true_and]
  · rw [if_neg h, decide_eq_false (show ¬ 1 ≤ n from h), Bool.false_and]
theorem right_l0 (L : List P) (hL : L.length ≤ 1000) : ∀ (B A : List P) (k : Nat) (m : Int), L = A ++ B → 5 * B.length < k → 0 ≤ m → m ≤ A.length →
    clewref15_Right.l0 k (U L) m (A.length : Int) = some (rr B A.isEmpty m) := by
  intro B
  induction B with
  | nil =>
    intro A k m h hk h0 h1
    obtain ⟨k, rfl⟩ : ∃ j, k = j + 1 := ⟨k - 1, by omega⟩
    simp only [clewref15_Right.l0]
    have hl : L.length = A.length := by rw [h]; simp
    rw [if_neg (by rw [U_len]; omega)]
    rfl
  | cons t B ih =>
    intro A k m h hk h0 h1
    rw [List.length_cons] at hk
    obtain ⟨k, rfl⟩ : ∃ j, k = j + 5 := ⟨k - 5, by omega⟩
    have hl : L.length = A.length + (B.length + 1) := by rw [h]; simp
    have ihn := ih (A ++ [t]) k (m + mk t) (by rw [h]; simp) (by omega) (by have := mk_le t; omega) (by have := mk_le t; simp; omega)
    rw [show (A ++ [t]).isEmpty = false by cases A <;> rfl, show (((A ++ [t]).length : Nat) : Int) = ((A.length + 1 : Nat) : Int) by simp, ← wr (by omega)] at ihn
    have j4 : ∀ b : Bool, clewref15_Right.j4 (k + 1) (U L) m (A.length : Int) b t.1 t.2 = some (!b && rr B false (m + mk t)) := by
      intro b
      simp only [clewref15_Right.j4]
      cases b with
      | true => rw [if_pos rfl]; rfl
      | false =>
        rw [if_neg (by decide)]
        by_cases h4 : t.1 = 4
        · rw [if_pos h4]
          rw [show mk t = 1 by unfold mk; rw [if_pos h4]] at ihn ⊢
          rw [show wrap64 (m + 1) = m + 1 by unfold wrap64; omega, ihn]
          rfl
        · rw [if_neg h4]
          rw [show mk t = 0 by unfold mk; rw [if_neg h4], Int.add_zero] at ihn ⊢
          rw [ihn]
          rfl
    have hwl : wrap64 ((A.length : Int) + 1) = ((A.length + 1 : Nat) : Int) := wr (by omega)
    have j3 : ∀ b : Bool, clewref15_Right.j3 (k + 2) (U L) m (A.length : Int) b t.1 t.2 = some (!b && ((if t.1 = 4 then nxt t B else true) && rr B false (m + mk t))) := by
      intro b
      simp only [clewref15_Right.j3]
      cases b with
      | true => rw [if_pos rfl]; rfl
      | false =>
        rw [if_neg (by decide)]
        by_cases h4 : t.1 = 4
        · rw [if_pos h4, if_pos h4, hwl]
          cases B with
          | nil =>
            rw [if_pos (by rw [U_len]; simp at hl; omega), j4]
            simp [nxt, h4]
          | cons u B =>
            have hu : L = (A ++ [t]) ++ u :: B := by rw [h]; simp
            have ru := rdU hu
            rw [show (((A ++ [t]).length : Nat) : Int) = ((A.length + 1 : Nat) : Int) by simp] at ru
            rw [if_neg (by rw [U_len]; simp at hl; omega), if_pos (by omega), if_pos (by rw [U_len]; simp at hl; omega), ru]
            simp only []
            by_cases h2 : u.1 = 2
            · rw [if_pos h2, j4]
              simp [nxt, folB, h4, h2]
            · rw [if_neg h2, j4]
              have : (u.1 == 2) = false := by simpa using h2
              simp [nxt, folB, h4, this, bne]
        · rw [if_neg h4, if_neg h4, j4]
          simp
    have j2 : ∀ b : Bool, clewref15_Right.j2 (k + 3) (U L) m (A.length : Int) b t.1 t.2 = some (!b && (nxt t B && rr B false (m + mk t))) := by
      intro b
      simp only [clewref15_Right.j2]
      cases b with
      | true => rw [if_pos rfl]; rfl
      | false =>
        rw [if_neg (by decide)]
        by_cases h0 : t.1 = 0
        · rw [if_pos h0, hwl]
          cases B with
          | nil =>
            rw [if_neg (by rw [U_len]; simp at hl; omega), j3]
            simp [nxt, h0]
          | cons u B =>
            have hu : L = (A ++ [t]) ++ u :: B := by rw [h]; simp
            have ru := rdU hu
            rw [show (((A ++ [t]).length : Nat) : Int) = ((A.length + 1 : Nat) : Int) by simp] at ru
            rw [if_pos (by rw [U_len]; simp at hl; omega), if_pos (by omega), ru, j3]
            simp [nxt, folB, h0, bne]
        · rw [if_neg h0, j3]
          by_cases h4 : t.1 = 4
          · rw [if_pos h4]
          · rw [if_neg h4]
            have : nxt t B = true := by
              cases B with
              | nil => simp [nxt, h4]
              | cons u B => simp [nxt, folB, h0, h4]
            rw [this]
    have j1 : ∀ b : Bool, clewref15_Right.j1 (k + 4) (U L) m (A.length : Int) b t.1 t.2 = some (!b && (!(A.isEmpty && decide (t.1 > 1)) && (nxt t B && rr B false (m + mk t)))) := by
      intro b
      simp only [clewref15_Right.j1]
      cases b with
      | true => rw [if_pos rfl]; rfl
      | false =>
        rw [if_neg (by decide)]
        cases A with
        | nil =>
          rw [if_pos (by rfl), j2]
          simp
        | cons a A =>
          rw [if_neg (by rw [List.length_cons]; omega), j2]
          simp
    simp only [clewref15_Right.l0]
    rw [if_pos (by rw [U_len]; omega), if_pos (by omega), rdU h]
    simp only []
    simp only [rr]
    obtain ⟨t1, t2⟩ := t
    simp only [] at j1 ⊢
    simp only [j1, skipsR_f, Option.bind_some]
    unfold fitsB
    simp only []
    by_cases q1 : t1 < 0
    · rw [if_pos q1, if_neg (by omega), if_neg (by omega)]; simp [q1]; omega
    · rw [if_neg q1]
      by_cases q2 : t1 > 5
      · rw [if_pos q2, if_neg (by omega), if_neg (by omega)]; simp; omega
      · rw [if_neg q2]
        by_cases q3 : t1 = 0
        · rw [if_pos q3, if_pos q3]
          cases hs : skp t2 with
          | true => rw [if_pos rfl, if_neg (by omega), if_neg (by omega)]; rfl
          | false => rw [if_neg (by decide)]; rfl
        · rw [if_neg q3, if_neg q3]
          by_cases q5 : t1 = 5
          · rw [if_pos q5, if_pos q5]
            by_cases q6 : t2 < 0
            · rw [if_pos q6]; simp; omega
            · rw [if_neg q6]
              by_cases q7 : t2 ≥ m
              · rw [if_pos q7]; simp; omega
              · rw [if_neg q7, if_pos (by omega), if_neg (by omega)]
                have : (decide (t2 ≥ 0) && decide (t2 < m)) = true := by simp; omega
                rw [this]
                rfl
          · rw [if_neg q5, if_neg q5, if_pos (by omega), if_pos (by omega)]
            have : (decide (t1 > 0) && (decide (t1 < 6) && (t2 == 0))) = (t2 == 0) := by
              rw [decide_eq_true (show t1 > 0 by omega), decide_eq_true (show t1 < 6 by omega)]; simp
            rw [this]
            simp [bne]
theorem right_f (L : List P) (hL : L.length ≤ 1000) : clewref15_Right.f 5001 (U L) = some (right L) := by
  unfold clewref15_Right.f
  rw [if_neg (by rw [U_len]; omega), ← rr_right]
  have := right_l0 L hL L [] 5001 0 rfl (by omega) (by omega) (by simp)
  rw [show (([] : List P).length : Int) = 0 from rfl] at this
  exact this
theorem marks_l0 (L : List P) (hL : L.length ≤ 1000) : ∀ (B A : List P) (k : Nat) (n : Int), L = A ++ B → B.length < k → 0 ≤ n → n ≤ A.length → clewref15_Marks.l0 k (U L) n (A.length : Int) = some (n + marks B) := by
  intro B
  induction B with
  | nil =>
    intro A k n h hk h0 h1
    obtain ⟨k, rfl⟩ : ∃ j, k = j + 1 := ⟨k - 1, by omega⟩
    have hl : L.length = A.length := by rw [h]; simp
    simp only [clewref15_Marks.l0]
    rw [if_neg (by rw [U_len]; omega)]
    simp [marks]
  | cons t B ih =>
    intro A k n h hk h0 h1
    rw [List.length_cons] at hk
    obtain ⟨k, rfl⟩ : ∃ j, k = j + 1 := ⟨k - 1, by omega⟩
    have hl : L.length = A.length + (B.length + 1) := by rw [h]; simp
    have ihn := ih (A ++ [t]) k (n + mk t) (by rw [h]; simp) (by omega) (by have := mk_le t; omega) (by have := mk_le t; simp; omega)
    rw [show (((A ++ [t]).length : Nat) : Int) = ((A.length + 1 : Nat) : Int) by simp, ← wr (by omega)] at ihn
    simp only [clewref15_Marks.l0]
    rw [if_pos (by rw [U_len]; omega), if_pos (by omega), rdU h]
    simp only [marks]
    by_cases h4 : t.1 = 4
    · rw [show mk t = 1 by unfold mk; rw [if_pos h4]] at ihn ⊢
      rw [if_pos h4, show wrap64 (n + 1) = n + 1 by unfold wrap64; omega, ihn, Int.add_assoc]
    · rw [show mk t = 0 by unfold mk; rw [if_neg h4]] at ihn ⊢
      rw [if_neg h4, Int.zero_add]
      rw [Int.add_zero] at ihn
      exact ihn
theorem marks_f (L : List P) (hL : L.length ≤ 1000) : clewref15_Marks.f 1001 (U L) = some (marks L) := by
  unfold clewref15_Marks.f
  have := marks_l0 L hL L [] 1001 0 rfl (by omega) (by omega) (by simp)
  rw [Int.zero_add] at this
  exact this
theorem places_l0 (L : List P) (hL : L.length ≤ 1000) : ∀ (B A : List P) (k : Nat) (n : Int), L = A ++ B → B.length < k → 0 ≤ n → n ≤ 10001 * A.length → clewref15_Places.l0 k (U L) n (A.length : Int) = some (n + places B) := by
  intro B
  induction B with
  | nil =>
    intro A k n h hk h0 h1
    obtain ⟨k, rfl⟩ : ∃ j, k = j + 1 := ⟨k - 1, by omega⟩
    have hl : L.length = A.length := by rw [h]; simp
    simp only [clewref15_Places.l0]
    rw [if_neg (by rw [U_len]; omega)]
    simp [places]
  | cons t B ih =>
    intro A k n h hk h0 h1
    rw [List.length_cons] at hk
    obtain ⟨k, rfl⟩ : ∃ j, k = j + 1 := ⟨k - 1, by omega⟩
    have hl : L.length = A.length + (B.length + 1) := by rw [h]; simp
    have hpl := pl_le t
    have ihn := ih (A ++ [t]) k (n + pl t) (by rw [h]; simp) (by omega) (by omega) (by simp; omega)
    rw [show (((A ++ [t]).length : Nat) : Int) = ((A.length + 1 : Nat) : Int) by simp, ← wr (by omega)] at ihn
    simp only [clewref15_Places.l0]
    rw [if_pos (by rw [U_len]; omega), if_pos (by omega), rdU h]
    simp only [places]
    have hw : wrap64 (n + pl t) = n + pl t := by unfold wrap64; omega
    by_cases h1 : t.1 = 1
    · have e : pl t = 1 := by unfold pl; rw [if_pos h1]
      rw [e] at ihn hw ⊢
      rw [if_pos h1, if_neg (by omega), hw, ihn, Int.add_assoc]
    · rw [if_neg h1]
      by_cases h2 : t.1 = 0
      · rw [if_pos h2, skipsR_f]
        simp only [Option.bind_some]
        cases hs : skp t.2 with
        | true =>
          have e : pl t = t.2 := by unfold pl; rw [if_neg h1, if_pos h2, if_pos hs]
          rw [e] at ihn hw ⊢
          rw [if_pos rfl, hw, ihn, Int.add_assoc]
        | false =>
          have e : pl t = 0 := by unfold pl; rw [if_neg h1, if_pos h2, if_neg (by rw [hs]; decide)]
          rw [e] at ihn ⊢
          rw [if_neg (by decide), Int.zero_add]
          rw [Int.add_zero] at ihn
          exact ihn
      · have e : pl t = 0 := by unfold pl; rw [if_neg h1, if_neg h2]
        rw [e] at ihn ⊢
        rw [if_neg h2, Int.zero_add]
        rw [Int.add_zero] at ihn
        exact ihn
theorem places_f (L : List P) (hL : L.length ≤ 1000) : clewref15_Places.f 1001 (U L) = some (places L) := by
  unfold clewref15_Places.f
  have := places_l0 L hL L [] 1001 0 rfl (by omega) (by omega) (by simp)
  rw [Int.zero_add] at this
  exact this
end Go.Proofs.YtdlgceepanegdaaDoor.HRef
