/- wire's fixed calls. -/
import Derived.Test.YtbillgeckogfnaaWEq
import Derived.Test.YtbillgeckogfnaaQ6
namespace Go.Proofs.Ytbillgeckogfnaa.WEq
open Go.RowKit Go.Proofs.YtbillgeckogfnaaW.PrintWords Go.Proofs.YtbillgeckogfnaaW.PrintLast Go.Proofs.YtbillgeckogfnaaW.PrintMore Go.Proofs.Ytbillgeckogfnaa.Q WMath BMath

theorem get_at (l : List UInt8) (a : Nat) (g : Nat × Nat × Nat) (ha : a ≤ l.length) (hl : l.length ≤ 100) (h : getN ((l.map (·.toNat)).drop a) = g) : wire_Get.f ⟨l.toArray⟩ (a : Int) = some (tell a g) := by
  rw [get_eq ⟨l.toArray⟩ a (by show a ≤ l.toArray.size; simpa using ha) (by show l.toArray.size ≤ _; simp; omega)]
  rw [show bl ⟨l.toArray⟩ = l.map (·.toNat) by simp [bl], h]
theorem all_at (k : Nat) (l : List UInt8) (most : Int) (r : List Nat × Nat) (hl : l.length ≤ 100) (hk : l.length < k) (h : all most (l.length + 1) [] (l.map (·.toNat)) = r) : wire_All.f k ⟨l.toArray⟩ most = some (ints r.1, (r.2 : Int)) := by
  have hs : (⟨l.toArray⟩ : ByteArray).size = l.length := by show l.toArray.size = _; simp
  rw [all_eq k ⟨l.toArray⟩ most (by rw [hs]; omega) (by rw [hs]; omega), hs, show bl ⟨l.toArray⟩ = l.map (·.toNat) by simp [bl], h]
theorem putS_list (n : Nat) (l : List UInt8) (hn : n < 2 ^ 64) (h : put n = l.map (·.toNat)) : (putS n).toList = l := by
  rw [Lib.toList_data]
  have := bl_putS hn
  rw [h] at this
  exact map_inj _ _ this
theorem fixed_eq (k : Nat) (hk : 60 ≤ k) : clewlaw02_fixed.f k = some true := by
  unfold clewlaw02_fixed.f
  have g1 := get_at [120, 193, 1, 44, 121] 1 (300, 3, 0) (by decide) (by decide) (by decide)
  have g2 := get_at [192, 191] 0 (0, 0, 3) (by decide) (by decide) (by decide)
  have g3 := get_at [193, 0, 255] 0 (0, 0, 3) (by decide) (by decide) (by decide)
  have g4 := get_at [200] 0 (0, 0, 3) (by decide) (by decide) (by decide)
  have g5 := get_at [193, 1] 0 (0, 0, 2) (by decide) (by decide) (by decide)
  have g6 : wire_Get.f (⟨#[]⟩ : ByteArray) 1 = some (0, 0, 1) := get_out _ 1 (Or.inr (by decide)) (by decide)
  have a1 := all_at k [7, 192, 192] 2 ([7, 192], 0) (by decide) (by simp; omega) (by decide)
  have a2 := all_at k [7, 192, 192] 1 ([], 4) (by decide) (by simp; omega) (by decide)
  have p1 : wire_Put.f k 191 = some (putS 191) := put_eq k 191 (by omega) (by decide)
  have p2 : wire_Put.f k 192 = some (putS 192) := put_eq k 192 (by omega) (by decide)
  have p3 : wire_Put.f k 300 = some (putS 300) := put_eq k 300 (by omega) (by decide)
  have p4 : wire_Size.f k 300 = some 3 := size_eq k 300 (by omega) (by decide)
  rw [show ((1 : Nat) : Int) = 1 from rfl] at g1
  rw [show ((0 : Nat) : Int) = 0 from rfl] at g2 g3 g4 g5
  simp only [g1, g2, g3, g4, g5, g6, a1, a2, p1, p2, p3, p4, Option.bind_some]
  rw [if_pos (putS_list 191 [191] (by decide) (by decide)), if_pos (putS_list 192 [192, 192] (by decide) (by decide)), if_pos (putS_list 300 [193, 1, 44] (by decide) (by decide))]
  rw [same_eq k _ _ (by simp [ints]; omega) (by simp [ints])]
  simp [tell, ints]
end Go.Proofs.Ytbillgeckogfnaa.WEq
