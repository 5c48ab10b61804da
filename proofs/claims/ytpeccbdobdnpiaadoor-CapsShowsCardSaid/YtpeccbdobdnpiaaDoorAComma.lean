/- Groups as text: how many commas; what is told of more begins with what is told of fewer. -/
import Derived.Test.YtpeccbdobdnpiaaDoorARShow
import Derived.Test.YtpeccbdobdnpiaaDoorAAgain
import Derived.Test.YtpeccbdobdnpiaaDoorHNum
namespace Go.Proofs.YtpeccbdobdnpiaaDoor.AComma
open ACap AGet AText ASame AAgain AShow ARShow
set_option linter.unusedVariables false
set_option linter.unusedSimpArgs false
/-- the commas ahead of the byte i -/
def cm (f : Nat → Int) : Nat → Nat
  | 0 => 0
  | i + 1 => cm f i + if f i = 44 then 1 else 0
theorem bya_list (l : List UInt8) (i : Nat) (h : i < l.length) : bya ⟨l.toArray⟩ i = (l[i]'h).toNat := by
  unfold bya
  have hs : (⟨l.toArray⟩ : ByteArray).size = l.length := by show l.toArray.size = _; simp
  rw [dif_pos (by rw [hs]; exact h)]
  rfl
theorem cm_take (l : List UInt8) (i : Nat) (h : i ≤ l.length) : cm (bya ⟨l.toArray⟩) i = (l.take i).count 44 := by
  induction i with
  | zero => rfl
  | succ i ih =>
    have hi : i < l.length := by omega
    rw [cm, ih (by omega), bya_list l i hi, ← List.take_append_getElem hi, List.count_append]
    congr 1
    by_cases e : l[i] = 44
    · rw [e]; rfl
    · have hn : ¬ (((l[i]).toNat : Int) = 44) := fun h => e (UInt8.toNat_inj.1 (show (l[i]).toNat = (44 : UInt8).toNat from by
        have h2 : (l[i]).toNat = 44 := by omega
        rw [h2]; rfl))
      rw [if_neg hn]
      simp [List.count_cons, e]
theorem cm_all (l : List UInt8) : cm (bya ⟨l.toArray⟩) l.length = l.count 44 := by
  rw [cm_take l _ (Nat.le_refl _), List.take_length]
theorem cm_le (f : Nat → Int) (i : Nat) : cm f i ≤ i := by
  induction i with
  | zero => exact Nat.le_refl _
  | succ i ih => rw [cm]; split <;> omega
theorem count_no {l : List UInt8} (h : ∀ c ∈ l, c ≠ 44) : l.count 44 = 0 := List.count_eq_zero.2 fun hm => h _ hm rfl
theorem count_tail (r : List (List UInt8)) (h : ∀ x ∈ r, ∀ c ∈ x, c ≠ 44) : (Lib.joinTail [44] r).count 44 = r.length := by
  induction r with
  | nil => rfl
  | cons x r ih =>
    have e : Lib.joinTail [44] (x :: r) = 44 :: (x ++ Lib.joinTail [44] r) := by simp [Lib.joinTail]
    rw [e, List.count_cons, List.count_append, count_no (h x List.mem_cons_self), ih fun z hz => h z (List.mem_cons_of_mem _ hz)]
    simp
theorem num_mem (n : Int) : ∀ c ∈ (num n).data.toList, c ≠ 44 := by
  intro c hc
  have hc2 : c ∈ Go.Lib.itoa n := by simpa [num] using hc
  rcases HNum.itoa_mem n c hc2 with e | ⟨h1, h2⟩
  · rw [e]; decide
  · intro e
    rw [e] at h1
    exact absurd h1 (by decide)
theorem item_mem (b : Nat → Bool) (y : Nat → Int) (g : Int) : ∀ c ∈ (item b y g).data.toList, c ≠ 44 := by
  intro c hc
  unfold item at hc
  split at hc
  · rw [ByteArray.data_append, ByteArray.data_append, Array.toList_append, Array.toList_append, List.mem_append, List.mem_append] at hc
    rcases hc with (hc | hc) | hc
    · exact num_mem _ c hc
    · have : c = 45 := by simpa using hc
      rw [this]; decide
    · exact num_mem _ c hc
  · have : c = 63 := by simpa using hc
    rw [this]; decide
theorem shown_count (b : Nat → Bool) (y : Nat → Int) (m : Nat) : (shown (items b y m)).count 44 = m - 1 := by
  have hm : ∀ x ∈ (items b y m).map (·.data.toList), ∀ c ∈ x, c ≠ 44 := by
    intro x hx
    obtain ⟨u, hu, rfl⟩ := List.mem_map.1 hx
    obtain ⟨i, _, rfl⟩ := List.mem_map.1 hu
    exact item_mem b y _
  have hl : ((items b y m).map (·.data.toList)).length = m := by rw [List.length_map, items_len]
  unfold shown
  generalize (items b y m).map (·.data.toList) = L at *
  cases L with
  | nil => rw [← hl]; rfl
  | cons x r =>
    rw [Lib.join_cons, List.count_append, count_no (hm x List.mem_cons_self), count_tail r fun z hz => hm z (List.mem_cons_of_mem _ hz), ← hl]
    simp
theorem told_commas (b : Nat → Bool) (y : Nat → Int) (m : Nat) : cm (bya (told b y m)) (told b y m).size = m - 1 := by
  rw [told_eq]
  have hs : (⟨(shown (items b y m)).toArray⟩ : ByteArray).size = (shown (items b y m)).length := by show (shown (items b y m)).toArray.size = _; simp
  rw [hs, cm_all, shown_count]
theorem item_pos (b : Nat → Bool) (y : Nat → Int) (g : Int) : 0 < (item b y g).size := by
  unfold item
  split
  · rw [ByteArray.size_append, ByteArray.size_append]
    show 0 < _ + 1 + _
    omega
  · decide
theorem told_pos (b : Nat → Bool) (y : Nat → Int) (m : Nat) (h : 0 < m) : 0 < (told b y m).size := by
  obtain ⟨k, rfl⟩ : ∃ k, m = k + 1 := ⟨m - 1, by omega⟩
  rw [told, ByteArray.size_append]
  have := item_pos b y ((k : Int) + 1)
  omega
theorem bya_app (s t : ByteArray) (i : Nat) (h : i < s.size) : bya (s ++ t) i = bya s i := by
  unfold bya
  rw [dif_pos (show i < (s ++ t).size by rw [ByteArray.size_append]; omega), dif_pos h, ByteArray.getElem_append_left h]
theorem app_cut (s t : ByteArray) : (s ++ t).extract 0 s.size = s := by
  have hz : ((s ++ t).extract 0 s.size).size = s.size := by rw [ByteArray.size_extract, ByteArray.size_append]; omega
  refine bya_eq hz fun i hi => ?_
  rw [hz] at hi
  rw [bya_ext _ (by rw [ByteArray.size_append]; omega) (by omega), Nat.zero_add, bya_app s t i hi]
theorem told_next (b : Nat → Bool) (y : Nat → Int) (m : Nat) : ∃ t, told b y (m + 1) = told b y m ++ t := by
  rw [told]
  by_cases h : m = 0
  · rw [if_pos h]; exact ⟨_, rfl⟩
  · rw [if_neg h, ByteArray.append_assoc]; exact ⟨_, rfl⟩
theorem told_pre (b : Nat → Bool) (y : Nat → Int) (m m' : Nat) (h : m' = m ∨ m' = m + 1) : (told b y m).size ≤ (told b y m').size ∧ (told b y m').extract 0 (told b y m).size = told b y m := by
  rcases h with rfl | rfl
  · refine ⟨Nat.le_refl _, ?_⟩
    have := app_cut (told b y m') ⟨#[]⟩
    rwa [show told b y m' ++ ⟨#[]⟩ = told b y m' from ByteArray.append_empty] at this
  · obtain ⟨t, ht⟩ := told_next b y m
    rw [ht, ByteArray.size_append]
    exact ⟨by omega, app_cut _ _⟩
end Go.Proofs.YtpeccbdobdnpiaaDoor.AComma
