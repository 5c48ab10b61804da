/- A greater number never has fewer bytes; a number has 1, or 2 to 9; unlike ones have unlike bytes; one that is got has just the bytes that it was got of (bytes cut at 100). No condition. -/
import Derived.Test.YtbillgeckogfnaaWLaw
import Derived.Test.YtbillgeckogfnaaQ10
namespace Go.Proofs.Ytbillgeckogfnaa.Pure
open Go.RowKit Go.Proofs.Ytbillgeckogfnaa.Q Go.Proofs.YtbillgeckogfnaaW.PrintWords Go.Proofs.YtbillgeckogfnaaW.PrintLast Go.Proofs.YtbillgeckogfnaaW.PrintMore WMath BMath WEq

theorem sizes_rest (s : ByteArray) : clewlaw02_WireSizes.j0 100 s false = some true := by
  simp only [clewlaw02_WireSizes.j0]
  have hm : mn (s.size : Int) 100 = ((min s.size 100 : Nat) : Int) := mn_nat s.size 100
  have hz := cut_size s 100
  rw [if_neg (by simp), hm, Int.toNat_natCast]
  generalize s.extract 0 (min s.size 100) = t at hz ⊢
  have hg := get_eq t 0 (by omega) (by omega)
  rw [List.drop_zero] at hg
  have hp := fun h => put_getN (bl_bytes t) h
  have h0 := fun h => getN_zero (l := bl t) h
  rw [bl_length] at hp
  rw [if_pos (by omega), if_pos (by omega), show (0 : Int) = ((0 : Nat) : Int) from rfl, hg, Option.bind_some]
  generalize getN (bl t) = g at hp h0 ⊢
  obtain ⟨v, c, e⟩ := g
  by_cases he : e = 0
  · subst he
    obtain ⟨h1, h2, h3, h4⟩ := hp rfl
    simp only [] at h1 h2 h3 h4
    have e1 : (tell 0 (v, c, 0)).1 = (v : Int) := rfl
    have e2 : (tell 0 (v, c, 0)).2.1 = (c : Int) := by simp [tell]
    have e3 : (tell 0 (v, c, 0)).2.2 = ((0 : Nat) : Int) := rfl
    rw [e1, e2, e3, if_pos rfl, if_pos (by omega), if_pos (by omega), put_eq 99 v (by omega) h1, Option.bind_some, if_pos (by omega), if_pos, fixed_eq 99 (by omega)]
    · rfl
    · rw [toList_iff, bl_putS h1, Int.toNat_natCast, bl_extract_to, h4]
  · obtain ⟨h1, h2⟩ := h0 he
    simp only [] at h1 h2
    subst h1
    subst h2
    have e1 : (tell 0 (0, 0, e)).1 = ((0 : Nat) : Int) := rfl
    have e2 : (tell 0 (0, 0, e)).2.1 = ((0 : Nat) : Int) := by simp [tell]
    have e3 : (tell 0 (0, 0, e)).2.2 = (e : Int) := rfl
    rw [e1, e2, e3, if_neg (by omega), if_pos rfl, if_pos rfl, fixed_eq 99 (by omega)]
    rfl
theorem WireSizes : clewlaw02_WireSizes.Pure := by
  intro a b s ha hb hs
  obtain ⟨m, rfl, hm⟩ := u64_of ha
  obtain ⟨n, rfl, hn⟩ := u64_of hb
  refine ⟨100, ?_⟩
  unfold clewlaw02_WireSizes.f
  have r1 := put_range hm
  have e1 : ((putS m).toList == (putS n).toList) = ((m : Int) == (n : Int)) := by
    rw [Bool.eq_iff_iff]
    simp only [beq_iff_eq]
    rw [toList_iff, bl_putS hm, bl_putS hn]
    exact ⟨fun h => by rw [put_inj hm hn h], fun h => by rw [Int.ofNat_inj.1 h]⟩
  have e2 : (((putS m).size : Int) != ((put m).length : Int)) = false := by rw [putS_size hm]; simp
  rw [put_eq 100 m (by omega) hm, put_eq 100 n (by omega) hn, Option.bind_some, Option.bind_some, e1, if_neg (by simp)]
  have e3 : (putS m).size = (put m).length := putS_size hm
  have e4 : (putS n).size = (put n).length := putS_size hn
  by_cases h : m < n
  · have := put_mono hn h
    rw [if_pos (by omega), if_neg (by omega), if_neg (by omega), if_neg (by omega), size_eq 100 m (by omega) hm, Option.bind_some, e2]
    exact sizes_rest s
  · rw [if_neg (by omega), if_neg (by omega), if_neg (by omega), size_eq 100 m (by omega) hm, Option.bind_some, e2]
    exact sizes_rest s
end Go.Proofs.Ytbillgeckogfnaa.Pure
