/- The store's contracts, for a law that has one store alone; the fixed calls. -/
import Derived.Test.YtajflmpdpggcgaaFPutAll
import Derived.Test.YtajflmpdpggcgaaFNew
namespace Go.Proofs.Ytajflmpdpggcgaa.FSat
open Go.RowKit FMath FKey FRep FGet FNew Go.Proofs.YtajflmpdpggcgaaW.PrintWords Go.Proofs.YtajflmpdpggcgaaW.PrintLast Go.Proofs.YtajflmpdpggcgaaW.PrintMore
set_option linter.unusedVariables false
set_option linter.unusedSimpArgs false

/-- the store at block s holds T; all of its blocks are from B on -/
def SAt (B : Nat) (w : World) (s : Nat) (T : List Fr) (most : Int) : Prop := ∃ bl bd m cl cd, SHas w s bl bd m cl cd T most ∧ B ≤ s ∧ B ≤ bl ∧ B ≤ bd ∧ B ≤ m
theorem SAt.below {B : Nat} {w w' : World} {s : Nat} {T : List Fr} {most : Int} (H : SAt B w s T most) (h : Below w.heap.size w w') : SAt B w' s T most := by
  obtain ⟨bl, bd, m, cl, cd, h1, h2⟩ := H
  exact ⟨bl, bd, m, cl, cd, h1.below h, h2⟩
theorem SAt.good {B : Nat} {w : World} {s : Nat} {T : List Fr} {most : Int} (H : SAt B w s T most) : FMath.Good T ∧ (T.length : Int) ≤ most ∧ most ≤ 1048576 := by
  obtain ⟨bl, bd, m, cl, cd, h1, h2⟩ := H
  exact ⟨h1.good, h1.room, h1.most_le⟩
theorem sput {B : Nat} {w : World} {s : Nat} {T : List Fr} {most : Int} (H : SAt B w s T most) (a : Fr) (hB : B ≤ w.heap.size) :
    Calls Try.prog 10 #[.pointer (some ⟨s, 0, none⟩), a.val] w fun e w' => e = .returned (.tuple #[.int .i64 (put most T a).1, .int .i64 (put most T a).2.1]) ∧ SAt B w' s (put most T a).2.2 most ∧ Below B w w' := by
  obtain ⟨bl, bd, m, cl, cd, h1, h2, h3, h4, h5⟩ := H
  refine (FPutAll.put_calls w s bl bd m cl cd T most a h1).mono ?_
  rintro e w' ⟨rfl, bl', bd', cl', cd', q1, q2, q3, q4⟩
  refine ⟨rfl, ⟨bl', bd', m, cl', cd', q1, h2, by omega, by omega, h5⟩, q2.below (Below.refl B w) ?_ hB⟩
  intro x hx
  simp at hx
  omega
theorem sget {B : Nat} {w : World} {s : Nat} {T : List Fr} {most : Int} (H : SAt B w s T most) (i : Int) :
    Calls Try.prog 13 #[.pointer (some ⟨s, 0, none⟩), .int .i64 i] w fun e w' => e = .returned (.tuple #[(FMath.get T i).1.val, .bool (FMath.get T i).2]) ∧ Below w.heap.size w w' := by
  obtain ⟨bl, bd, m, cl, cd, h1, h2⟩ := H
  exact get_calls w s bl bd m cl cd T most i h1
theorem sdeep {B : Nat} {w : World} {s : Nat} {T : List Fr} {most : Int} (H : SAt B w s T most) (i : Int) :
    Calls Try.prog 16 #[.pointer (some ⟨s, 0, none⟩), .int .i64 i] w fun e w' => e = .returned (.int .i64 (deep T i)) ∧ w' = w := by
  obtain ⟨bl, bd, m, cl, cd, h1, h2⟩ := H
  exact deep_calls w s bl bd m cl cd T most i h1
theorem slen {B : Nat} {w : World} {s : Nat} {T : List Fr} {most : Int} (H : SAt B w s T most) :
    Calls Try.prog 15 #[.pointer (some ⟨s, 0, none⟩)] w fun e w' => e = .returned (.int .i64 T.length) ∧ w' = w := by
  obtain ⟨bl, bd, m, cl, cd, h1, h2⟩ := H
  exact len_calls w s bl bd m cl cd T most h1
theorem snew {B : Nat} {w : World} (most : Int) (h0 : 0 ≤ most) (h1 : most ≤ 1048576) (hB : B ≤ w.heap.size) :
    Calls Try.prog 8 #[.int .i64 most] w fun e w' => ∃ s, e = .returned (.tuple #[.pointer (some ⟨s, 0, none⟩), .int .i64 0]) ∧ SAt B w' s [] most ∧ Below w.heap.size w w' := by
  refine (new_yes w most h0 h1).mono ?_
  rintro e w' ⟨s, bl, bd, m, cl, cd, rfl, q1, q2, q3, q4, q5, q6⟩
  exact ⟨s, rfl, ⟨bl, bd, m, cl, cd, q1, by omega, by omega, by omega, by omega⟩, q2⟩

set_option maxRecDepth 100000 in
set_option maxHeartbeats 3200000 in
theorem fixed_calls (w : World) : Calls Try.prog 18 #[] w fun e w' => e = .returned (.bool true) ∧ Below w.heap.size w w' := by
  go_enter Try.func18, Try.ntmps18
  go_wp2_with fail
  refine (snew (B := w.heap.size) 2 (by omega) (by omega) (Nat.le_refl _)).mono ?_
  rintro e w1 ⟨s, rfl, hs1, hB1⟩
  have HS1 := Lib.hid hs1
  have HB1 := Lib.hid hB1
  clear hs1 hB1
  go_wp2_with fail
  refine (new_no w1 (-1) (by omega)).mono ?_
  rintro e w1' ⟨rfl, rfl⟩
  go_wp2_with fail
  refine (sput HS1.out ⟨1, 3, 0, 0, 0⟩ HB1.out.size).mono ?_
  rintro e w2 ⟨rfl, hs, hb⟩
  rw [show put 2 [] ⟨1, 3, 0, 0, 0⟩ = (1, 0, [⟨1, 3, 0, 0, 0⟩]) by decide] at hs ⊢
  have HS2 := Lib.hid hs
  have HB2 := Lib.hid (HB1.out.trans hb)
  clear hs hb
  go_wp2_with fail
  refine (sput HS2.out ⟨3, 4, 0, 2, 1⟩ HB2.out.size).mono ?_
  rintro e w3 ⟨rfl, hs, hb⟩
  rw [show put 2 [⟨1, 3, 0, 0, 0⟩] ⟨3, 4, 0, 2, 1⟩ = (2, 0, [⟨1, 3, 0, 0, 0⟩, ⟨3, 4, 0, 2, 1⟩]) by decide] at hs ⊢
  have HS3 := Lib.hid hs
  have HB3 := Lib.hid (HB2.out.trans hb)
  clear hs hb
  go_wp2_with fail
  refine (sput HS3.out ⟨1, 3, 0, 0, 0⟩ HB3.out.size).mono ?_
  rintro e w4 ⟨rfl, hs, hb⟩
  rw [show put 2 [⟨1, 3, 0, 0, 0⟩, ⟨3, 4, 0, 2, 1⟩] ⟨1, 3, 0, 0, 0⟩ = (1, 0, [⟨1, 3, 0, 0, 0⟩, ⟨3, 4, 0, 2, 1⟩]) by decide] at hs ⊢
  have HS4 := Lib.hid hs
  have HB4 := Lib.hid (HB3.out.trans hb)
  clear hs hb
  go_wp2_with fail
  refine (sput HS4.out ⟨1, 5, 0, 0, 0⟩ HB4.out.size).mono ?_
  rintro e w5 ⟨rfl, hs, hb⟩
  rw [show put 2 [⟨1, 3, 0, 0, 0⟩, ⟨3, 4, 0, 2, 1⟩] ⟨1, 5, 0, 0, 0⟩ = (0, 4, [⟨1, 3, 0, 0, 0⟩, ⟨3, 4, 0, 2, 1⟩]) by decide] at hs ⊢
  have HS5 := Lib.hid hs
  have HB5 := Lib.hid (HB4.out.trans hb)
  clear hs hb
  go_wp2_with fail
  refine (sput HS5.out ⟨1, 0, 0, 0, 3⟩ HB5.out.size).mono ?_
  rintro e w6 ⟨rfl, hs, hb⟩
  rw [show put 2 [⟨1, 3, 0, 0, 0⟩, ⟨3, 4, 0, 2, 1⟩] ⟨1, 0, 0, 0, 3⟩ = (0, 1, [⟨1, 3, 0, 0, 0⟩, ⟨3, 4, 0, 2, 1⟩]) by decide] at hs ⊢
  have HS6 := Lib.hid hs
  have HB6 := Lib.hid (HB5.out.trans hb)
  clear hs hb
  go_wp2_with fail
  refine (sput HS6.out ⟨0, 0, 0, 0, 0⟩ HB6.out.size).mono ?_
  rintro e w7 ⟨rfl, hs, hb⟩
  rw [show put 2 [⟨1, 3, 0, 0, 0⟩, ⟨3, 4, 0, 2, 1⟩] ⟨0, 0, 0, 0, 0⟩ = (0, 1, [⟨1, 3, 0, 0, 0⟩, ⟨3, 4, 0, 2, 1⟩]) by decide] at hs ⊢
  have HS7 := Lib.hid hs
  have HB7 := Lib.hid (HB6.out.trans hb)
  clear hs hb HS1 HS2 HS3 HS4 HS5 HS6 HB1 HB2 HB3 HB4 HB5 HB6
  go_wp2_with fail
  refine (sget HS7.out 2).mono ?_
  rintro e w8 ⟨rfl, hb⟩
  rw [show FMath.get [⟨1, 3, 0, 0, 0⟩, ⟨3, 4, 0, 2, 1⟩] 2 = (⟨3, 4, 0, 2, 1⟩, true) by decide]
  simp only [Fr.val, Fr.cells]
  have HS8 := Lib.hid (HS7.out.below hb)
  have HB8 := Lib.hid (below_step HB7.out hb)
  clear hb
  go_wp2_with fail
  refine (sget (HS8.out.below ((Below.refl _ _).alloc (Nat.le_refl _) _)) 0).mono ?_
  rintro e w9 ⟨rfl, hb⟩
  rw [show FMath.get [⟨1, 3, 0, 0, 0⟩, ⟨3, 4, 0, 2, 1⟩] 0 = (⟨0, 0, 0, 0, 0⟩, true) by decide]
  simp only [Fr.val, Fr.cells]
  have X9 := Lib.hid ((hb.block w8.heap.size (by simp)).trans (heap_alloc_new w8 _))
  have HS9 := Lib.hid ((HS8.out.below ((Below.refl _ _).alloc (Nat.le_refl _) _)).below hb)
  have HB9 := Lib.hid (below_step (HB8.out.alloc HB8.out.size _) hb)
  clear hb
  go_wp2_with fail
  refine (sget (HS9.out.below ((Below.refl _ _).alloc (Nat.le_refl _) _)) 3).mono ?_
  rintro e w10 ⟨rfl, hb⟩
  rw [show FMath.get [⟨1, 3, 0, 0, 0⟩, ⟨3, 4, 0, 2, 1⟩] 3 = (⟨0, 0, 0, 0, 0⟩, false) by decide]
  simp only [Fr.val, Fr.cells]
  have Z10 := Lib.hid ((hb.block w9.heap.size (by simp)).trans (heap_alloc_new w9 _))
  have X10 := Lib.hid ((hb.block w8.heap.size (by have := lt_of_blk X9.out; simp; omega)).trans (blk_alloc X9.out _))
  have HS10 := Lib.hid ((HS9.out.below ((Below.refl _ _).alloc (Nat.le_refl _) _)).below hb)
  have HB10 := Lib.hid (below_step (HB9.out.alloc HB9.out.size _) hb)
  clear hb X9 HS9 HB9 HS8 HB8 HS7 HB7
  have X11 := Lib.hid (blk_alloc X10.out (.cells #[.int .i64 0, .int .i64 0, .int .i64 0, .int .i64 0, .int .i64 0] 33))
  have Z11 := Lib.hid (blk_alloc Z10.out (.cells #[.int .i64 0, .int .i64 0, .int .i64 0, .int .i64 0, .int .i64 0] 33))
  have x0 := blk_cell X11.out 0 (.int .i64 3) rfl
  have x1 := blk_cell X11.out 1 (.int .i64 4) rfl
  have x2 := blk_cell X11.out 2 (.int .i64 0) rfl
  have x3 := blk_cell X11.out 3 (.int .i64 2) rfl
  have x4 := blk_cell X11.out 4 (.int .i64 1) rfl
  have z0 := blk_cell Z11.out 0 (.int .i64 0) rfl
  have z1 := blk_cell Z11.out 1 (.int .i64 0) rfl
  have z2 := blk_cell Z11.out 2 (.int .i64 0) rfl
  have z3 := blk_cell Z11.out 3 (.int .i64 0) rfl
  have z4 := blk_cell Z11.out 4 (.int .i64 0) rfl
  generalize w8.heap.size = bx at *
  generalize w9.heap.size = bz at *
  have TL := Lib.hid (slen (HS10.out.below ((Below.refl _ _).alloc (Nat.le_refl _) (.cells #[.int .i64 0, .int .i64 0, .int .i64 0, .int .i64 0, .int .i64 0] 33))))
  have TD := Lib.hid (fun i => sdeep (HS10.out.below ((Below.refl _ _).alloc (Nat.le_refl _) (.cells #[.int .i64 0, .int .i64 0, .int .i64 0, .int .i64 0, .int .i64 0] 33))) i)
  go_wp2_with fail
  refine TL.out.mono ?_
  rintro e w11 ⟨rfl, rfl⟩
  go_wp2_with fail
  refine (TD.out 2).mono ?_
  rintro e w12 ⟨rfl, rfl⟩
  rw [show deep [⟨1, 3, 0, 0, 0⟩, ⟨3, 4, 0, 2, 1⟩] 2 = 2 by decide]
  go_wp2_with fail
  refine (TD.out 0).mono ?_
  rintro e w12 ⟨rfl, rfl⟩
  rw [show deep [⟨1, 3, 0, 0, 0⟩, ⟨3, 4, 0, 2, 1⟩] 0 = 0 by decide]
  go_wp2_with fail
  refine (TD.out 9).mono ?_
  rintro e w12 ⟨rfl, rfl⟩
  rw [show deep [⟨1, 3, 0, 0, 0⟩, ⟨3, 4, 0, 2, 1⟩] 9 = 0 by decide]
  go_wp2
  go_ret
  exact ⟨rfl, HB10.out.alloc HB10.out.size _⟩
end Go.Proofs.Ytajflmpdpggcgaa.FSat
