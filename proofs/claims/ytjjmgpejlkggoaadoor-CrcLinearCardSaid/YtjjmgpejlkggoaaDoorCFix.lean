/- crc's fixed calls. -/
import Derived.Test.YtjjmgpejlkggoaaDoorCEq
namespace Go.Proofs.YtjjmgpejlkggoaaDoor.CEq
open Go.RowKit Go.Proofs.YtjjmgpejlkggoaaDoorW.PrintWords Go.Proofs.YtjjmgpejlkggoaaDoorW.PrintLast Go.Proofs.YtjjmgpejlkggoaaDoorW.PrintMore Go.Proofs.YtjjmgpejlkggoaaDoor.Q HOn CMath BMath

theorem open_err {s : ByteArray} (h3 : 3 ≤ s.size) (h : sum s ≠ 0) : openB s = (⟨#[]⟩, 8) := by
  have hne : ¬ (openB s).2 = 0 := fun h0 => h (open_zero h0).2.2
  unfold openB at hne ⊢
  rw [if_neg (by omega)] at hne ⊢
  split
  · rename_i hc
    rw [if_pos hc] at hne
    exact absurd rfl hne
  · rfl
theorem open_few {s : ByteArray} (h3 : s.size < 3) : openB s = (⟨#[]⟩, 2) := by unfold openB; rw [if_pos h3]
theorem fixed_eq : clewlaw03_fixed.f = some true := by
  unfold clewlaw03_fixed.f
  have s1 := seal_eq (⟨#[97, 98]⟩ : ByteArray) (by decide)
  have o1 := open_eq (sealB (⟨#[97, 98]⟩ : ByteArray)) (by rw [sealB_size]; decide)
  have o2 := open_eq (⟨#[97, 98]⟩ : ByteArray) (by decide)
  have o3 := open_eq (⟨#[97, 98, 99, 100]⟩ : ByteArray) (by decide)
  have n1 : sum (⟨#[49, 50, 51, 52, 53, 54, 55, 56, 57]⟩ : ByteArray) = 2215682 := by decide
  have n2 : sum (⟨#[]⟩ : ByteArray) = 11994318 := by decide
  have n3 : on (sum (⟨#[49, 50, 51, 52]⟩ : ByteArray) % 16777216) (⟨#[53, 54, 55, 56, 57]⟩ : ByteArray).data.toList = 2215682 := by decide
  have n4 : sum (⟨#[97, 98, 99, 100]⟩ : ByteArray) ≠ 0 := by decide
  have f1 := of_eq (⟨#[49, 50, 51, 52, 53, 54, 55, 56, 57]⟩ : ByteArray) (by decide)
  have f2 := of_eq (⟨#[]⟩ : ByteArray) (by decide)
  have f3 := of_eq (⟨#[49, 50, 51, 52]⟩ : ByteArray) (by decide)
  have f4 := on_eq (sum (⟨#[49, 50, 51, 52]⟩ : ByteArray)) (⟨#[53, 54, 55, 56, 57]⟩ : ByteArray) (by have := sum_lt (⟨#[49, 50, 51, 52]⟩ : ByteArray); omega) (by decide)
  have s2 := seal_eq (⟨#[]⟩ : ByteArray) (by decide)
  rw [open_seal] at o1
  rw [open_few (by decide)] at o2
  rw [open_err (by decide) n4] at o3
  rw [n1] at f1
  rw [n2] at f2
  rw [n3] at f4
  have t1 : (sealB (⟨#[]⟩ : ByteArray)).toList = [183, 4, 206] := by
    rw [Lib.toList_data, seal_data, n2]
    decide
  have t2 : (⟨#[97, 98]⟩ : ByteArray).toList = [97, 98] := by rw [Lib.toList_data]
  simp only [s1, o1, o2, o3, f1, f2, f3, f4, s2, Option.bind_some]
  rw [if_pos (by rfl), if_pos (by rfl), if_pos (by rfl), if_pos t1, if_pos t2, if_pos (by rfl), if_pos (by rfl)]
  rfl
end Go.Proofs.YtjjmgpejlkggoaaDoor.CEq
