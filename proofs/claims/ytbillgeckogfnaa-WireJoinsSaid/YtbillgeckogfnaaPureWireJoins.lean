/- The numbers of two texts, one behind the other, are both ones', if both are numbers alone (texts cut at 100 bytes). No condition. -/
import Derived.Test.YtbillgeckogfnaaWLaw
import Derived.Test.YtbillgeckogfnaaQ12
namespace Go.Proofs.Ytbillgeckogfnaa.Pure
open Go.RowKit Go.Proofs.Ytbillgeckogfnaa.Q Go.Proofs.YtbillgeckogfnaaW.PrintWords Go.Proofs.YtbillgeckogfnaaW.PrintLast Go.Proofs.YtbillgeckogfnaaW.PrintMore WMath BMath WEq

theorem joins_bad (s t : ByteArray) (a b : List Int) (e f : Int) (ha : e ≠ 0 → a = []) (hb : f ≠ 0 → b = []) : clewlaw02_WireJoins.j0 1000 s t a e b f true = some true := by
  simp only [clewlaw02_WireJoins.j0]
  rw [if_pos trivial, fixed_eq 999 (by omega)]
  by_cases he : e = 0
  · rw [if_pos he]
    by_cases hf : f = 0
    · rw [if_pos hf]; rfl
    · rw [if_neg hf, hb hf, if_pos (by simp)]; rfl
  · rw [if_neg he, ha he, if_pos (by simp)]
    by_cases hf : f = 0
    · rw [if_pos hf]; rfl
    · rw [if_neg hf, hb hf, if_pos (by simp)]; rfl
theorem WireJoins : clewlaw02_WireJoins.Pure := by
  intro s t hs ht
  refine ⟨1000, ?_⟩
  unfold clewlaw02_WireJoins.f
  have hm : mn (s.size : Int) 100 = ((min s.size 100 : Nat) : Int) := mn_nat s.size 100
  have hm2 : mn (t.size : Int) 100 = ((min t.size 100 : Nat) : Int) := mn_nat t.size 100
  have hz := cut_size s 100
  have hz2 := cut_size t 100
  rw [hm, hm2, Int.toNat_natCast, Int.toNat_natCast]
  generalize s.extract 0 (min s.size 100) = u at hz ⊢
  generalize t.extract 0 (min t.size 100) = v at hz2 ⊢
  rw [if_pos (by omega), if_pos (by omega), if_pos (by omega), if_pos (by omega), all_eq 1000 u 100 (by omega) (by omega), all_eq 1000 v 100 (by omega) (by omega), Option.bind_some, Option.bind_some]
  have o1 := all_ok 100 (u.size + 1) [] (bl u) (bl_bytes u) (by rw [bl_length]; omega)
  have o2 := all_ok 100 (v.size + 1) [] (bl v) (bl_bytes v) (by rw [bl_length]; omega)
  have x1 := all_err 100 (u.size + 1) [] (bl u)
  have x2 := all_err 100 (v.size + 1) [] (bl v)
  generalize all 100 (u.size + 1) [] (bl u) = p at o1 x1 ⊢
  generalize all 100 (v.size + 1) [] (bl v) = q at o2 x2 ⊢
  obtain ⟨a, e⟩ := p
  obtain ⟨b, f⟩ := q
  simp only [] at o1 o2 x1 x2 ⊢
  have y1 : (e : Int) ≠ 0 → ints a = [] := fun h => by rw [x1 (by omega)]; rfl
  have y2 : (f : Int) ≠ 0 → ints b = [] := fun h => by rw [x2 (by omega)]; rfl
  by_cases he : e = 0
  · rw [if_pos (by omega)]
    by_cases hf : f = 0
    · subst he
      subst hf
      obtain ⟨ns, n1, n2, n3, n4⟩ := o1 rfl
      obtain rfl : ns = a := by rw [n1]; simp
      obtain ⟨ms, m1, m2, m3, m4⟩ := o2 rfl
      obtain rfl : ms = b := by rw [m1]; simp
      have c1 := cat_length ns n3
      have c2 := cat_length ms m3
      rw [← n2, bl_length] at c1
      rw [← m2, bl_length] at c2
      have hsz : (u ++ v).size = u.size + v.size := ByteArray.size_append ..
      simp only [clewlaw02_WireJoins.j0]
      rw [if_neg (by simp), if_pos (by omega), all_eq 999 (u ++ v) 200 (by omega) (by omega), Option.bind_some, Option.bind_some]
      have hall : all 200 ((u ++ v).size + 1) [] (bl (u ++ v)) = (ns ++ ms, 0) := by
        rw [bl_append, n2, m2, ← cat_append, hsz]
        have := all_cat 200 [] (ns ++ ms) (u.size + v.size + 1 - (ns ++ ms).length) [] (by
          intro n hn
          rcases List.mem_append.1 hn with h | h
          · exact n3 n h
          · exact m3 n h) (by simp; omega)
        rw [List.append_nil, List.nil_append] at this
        have hl : (ns ++ ms).length ≤ u.size + v.size := by simp; omega
        rw [show u.size + v.size + 1 - (ns ++ ms).length + (ns ++ ms).length = u.size + v.size + 1 by omega] at this
        rw [this]
        obtain ⟨j, hj⟩ : ∃ j, u.size + v.size + 1 - (ns ++ ms).length = j + 1 := ⟨u.size + v.size - (ns ++ ms).length, by omega⟩
        rw [hj, all_nil]
      rw [hall, if_pos (by simp [ints_length]; omega), Option.bind_some, if_pos (by simp [ints_length]; omega)]
      simp only []
      rw [if_pos (by simp)]
      rw [List.nil_append, ints_append, same_eq 999 _ _ (by simp [ints_length]; omega) (by simp [ints_length]; omega), Option.bind_some, if_pos (by simp), fixed_eq 999 (by omega)]
      rfl
    · rw [show ((f : Int) != 0) = true by rw [bne_iff_ne]; omega]
      exact joins_bad u v _ _ _ _ y1 y2
  · rw [if_neg (by omega)]
    exact joins_bad u v _ _ _ _ y1 y2
end Go.Proofs.Ytbillgeckogfnaa.Pure
