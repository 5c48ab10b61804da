/- Plain facts on numbers one behind the other, for wire's laws. -/
import Derived.Test.YtbillgeckogfnaaWFix
namespace Go.Proofs.Ytbillgeckogfnaa.WEq
open Go.RowKit Go.Proofs.YtbillgeckogfnaaW.PrintWords Go.Proofs.YtbillgeckogfnaaW.PrintLast Go.Proofs.YtbillgeckogfnaaW.PrintMore Go.Proofs.Ytbillgeckogfnaa.Q WMath BMath

theorem u64_of {a : Int} (h : (Lit.int .u64 a).wf = true) : ∃ n : Nat, a = n ∧ n < 2 ^ 64 := by
  simp [Lit.wf, IntKind.min, IntKind.max, IntKind.signed, IntKind.bits] at h
  exact ⟨a.toNat, by omega, by omega⟩
theorem mn_nat (a b : Nat) : mn (a : Int) (b : Int) = ((min a b : Nat) : Int) := by
  unfold mn
  split <;> omega
/-- a string, cut off at b bytes -/
theorem cut_size (s : ByteArray) (b : Nat) : (s.extract 0 (min s.size b)).size = min s.size b := by
  rw [← bl_length, bl_extract_to, List.length_take, bl_length]
  omega
def cat (l : List Nat) : List Nat := l.flatMap put
theorem cat_cons (n : Nat) (l : List Nat) : cat (n :: l) = put n ++ cat l := by simp [cat]
theorem cat_append (l m : List Nat) : cat (l ++ m) = cat l ++ cat m := by simp [cat]
theorem cat_length (l : List Nat) (h : ∀ n ∈ l, n < 2 ^ 64) : l.length ≤ (cat l).length := by
  induction l with
  | nil => simp
  | cons n l ih =>
    have := ih (fun x hx => h x (by simp [hx]))
    have := put_range (h n (by simp))
    rw [cat_cons, List.length_append, List.length_cons]
    omega
/-- numbers that are put, one behind the other, are got as they were -/
theorem all_cat (most : Int) (r : List Nat) (ns : List Nat) : ∀ (f : Nat) (acc : List Nat), (∀ n ∈ ns, n < 2 ^ 64) → (acc.length + ns.length : Int) ≤ most →
    all most (f + ns.length) acc (cat ns ++ r) = all most f (acc ++ ns) r := by
  induction ns with
  | nil => intro f acc _ _; simp [cat]
  | cons n ns ih =>
    intro f acc h hm
    have hn := h n (by simp)
    have hp := put_ne_nil n
    rw [List.length_cons] at hm
    rw [List.length_cons, ← Nat.add_assoc, all, cat_cons, List.append_assoc, if_neg (by simp [hp]), if_neg (by omega), getN_put hn, if_neg (by simp), List.drop_left, ih f (acc ++ [n]) (fun x hx => h x (by simp [hx])) (by simp; omega)]
    simp
theorem all_nil (most : Int) (f : Nat) (acc : List Nat) : all most (f + 1) acc [] = (acc, 0) := by simp [all]
theorem all_ok (most : Int) (f : Nat) : ∀ (acc l : List Nat), Bytes l → l.length < f → (all most f acc l).2 = 0 →
    ∃ ns, (all most f acc l).1 = acc ++ ns ∧ l = cat ns ∧ (∀ n ∈ ns, n < 2 ^ 64) ∧ (ns ≠ [] → (acc.length + ns.length : Int) ≤ most) := by
  induction f with
  | zero => intro acc l _ h; omega
  | succ f ih =>
    intro acc l hb hl h
    rw [all] at h ⊢
    by_cases h1 : l = []
    · rw [if_pos h1]
      exact ⟨[], by simp, by simp [h1, cat], by simp, by simp⟩
    rw [if_neg h1] at h ⊢
    by_cases h2 : most ≤ (acc.length : Int)
    · rw [if_pos h2] at h; simp at h
    rw [if_neg h2] at h ⊢
    by_cases h3 : (getN l).2.2 = 0
    · rw [if_neg (by simp [h3])] at h ⊢
      obtain ⟨g1, g2, g3, g4⟩ := put_getN hb h3
      obtain ⟨ns, e1, e2, e3, e4⟩ := ih (acc ++ [(getN l).1]) (l.drop (getN l).2.1) (fun x hx => hb x (List.mem_of_mem_drop hx)) (by rw [List.length_drop]; omega) h
      refine ⟨(getN l).1 :: ns, by rw [e1]; simp, ?_, ?_, ?_⟩
      · rw [cat_cons, ← e2, g4, List.take_append_drop]
      · intro n hn
        rcases List.mem_cons.1 hn with rfl | hn
        · exact g1
        · exact e3 n hn
      · intro _
        by_cases hz : ns = []
        · subst hz; simp; omega
        · have := e4 hz
          simp at this ⊢
          omega
    · rw [if_pos h3] at h
      exact absurd h h3
theorem all_err (most : Int) (f : Nat) : ∀ (acc l : List Nat), (all most f acc l).2 ≠ 0 → (all most f acc l).1 = [] := by
  induction f with
  | zero => intro acc l _; simp [all]
  | succ f ih =>
    intro acc l h
    rw [all] at h ⊢
    by_cases h1 : l = []
    · rw [if_pos h1] at h; simp at h
    rw [if_neg h1] at h ⊢
    by_cases h2 : most ≤ (acc.length : Int)
    · rw [if_pos h2]
    rw [if_neg h2] at h ⊢
    by_cases h3 : (getN l).2.2 = 0
    · rw [if_neg (by simp [h3])] at h ⊢
      exact ih _ _ h
    · rw [if_pos h3]
end Go.Proofs.Ytbillgeckogfnaa.WEq
