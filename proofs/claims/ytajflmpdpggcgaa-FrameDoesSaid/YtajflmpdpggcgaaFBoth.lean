/- Both stores beside one another. -/
import Derived.Test.YtajflmpdpggcgaaFSat
import Derived.Test.YtajflmpdpggcgaaRPutAll
namespace Go.Proofs.Ytajflmpdpggcgaa.FBoth
open Go.RowKit FMath FKey FRep RRep FGet FNew FSat Go.Proofs.YtajflmpdpggcgaaW.PrintWords Go.Proofs.YtajflmpdpggcgaaW.PrintLast Go.Proofs.YtajflmpdpggcgaaW.PrintMore
set_option linter.unusedVariables false
set_option linter.unusedSimpArgs false

/-- the code's store at s holds T, the document's one at r holds U; no block is both ones'; all are from B on -/
def Both (B : Nat) (w : World) (s r : Nat) (T U : List Fr) (most : Int) : Prop := ∃ bl bd m cl cd rl rc, SHas w s bl bd m cl cd T most ∧ RHas w r rl rc U most ∧
  B ≤ s ∧ B ≤ bl ∧ B ≤ bd ∧ B ≤ m ∧ B ≤ r ∧ B ≤ rl ∧ r ∉ [s, bl, bd, m] ∧ rl ∉ [s, bl, bd, m]
theorem Both.below {B : Nat} {w w' : World} {s r : Nat} {T U : List Fr} {most : Int} (H : Both B w s r T U most) (h : Below w.heap.size w w') : Both B w' s r T U most := by
  obtain ⟨bl, bd, m, cl, cd, rl, rc, h1, h2, h3⟩ := H
  exact ⟨bl, bd, m, cl, cd, rl, rc, h1.below h, h2.below h, h3⟩
theorem Both.sat {B : Nat} {w : World} {s r : Nat} {T U : List Fr} {most : Int} (H : Both B w s r T U most) : SAt B w s T most := by
  obtain ⟨bl, bd, m, cl, cd, rl, rc, h1, h2, h3, h4, h5, h6, h7⟩ := H
  exact ⟨bl, bd, m, cl, cd, h1, h3, h4, h5, h6⟩
theorem Both.ref {B : Nat} {w : World} {s r : Nat} {T U : List Fr} {most : Int} (H : Both B w s r T U most) : ∃ rl rc, RHas w r rl rc U most := by
  obtain ⟨bl, bd, m, cl, cd, rl, rc, h1, h2, h3⟩ := H
  exact ⟨rl, rc, h2⟩
theorem bput {B : Nat} {w : World} {s r : Nat} {T U : List Fr} {most : Int} (H : Both B w s r T U most) (a : Fr) (hB : B ≤ w.heap.size) :
    Calls Try.prog 10 #[.pointer (some ⟨s, 0, none⟩), a.val] w fun e w' => e = .returned (.tuple #[.int .i64 (put most T a).1, .int .i64 (put most T a).2.1]) ∧ Both B w' s r (put most T a).2.2 U most ∧ Below B w w' := by
  obtain ⟨bl, bd, m, cl, cd, rl, rc, h1, h2, h3, h4, h5, h6, h7, h8, h9, h10⟩ := H
  have ls := h2.lts
  refine (FPutAll.put_calls w s bl bd m cl cd T most a h1).mono ?_
  rintro e w' ⟨rfl, bl', bd', cl', cd', q1, q2, q3, q4⟩
  simp at h9 h10
  refine ⟨rfl, ⟨bl', bd', m, cl', cd', rl, rc, q1, h2.turned q2 (by simp; omega) (by simp; omega), h3, by omega, by omega, h6, h7, h8, by simp; omega, by simp; omega⟩, q2.below (Below.refl B w) ?_ hB⟩
  intro x hx
  simp at hx
  omega
theorem rput {B : Nat} {w : World} {s r : Nat} {T U : List Fr} {most : Int} (H : Both B w s r T U most) (a : Fr) (hB : B ≤ w.heap.size) :
    Calls Try.prog 11 #[.pointer (some ⟨r, 0, none⟩), a.val] w fun e w' => e = .returned (.tuple #[.int .i64 (put most U a).1, .int .i64 (put most U a).2.1]) ∧ Both B w' s r T (put most U a).2.2 most ∧ Below B w w' := by
  obtain ⟨bl, bd, m, cl, cd, rl, rc, h1, h2, h3, h4, h5, h6, h7, h8, h9, h10⟩ := H
  have ls := h1.lts
  refine (RPutAll.put_calls w r rl rc U most a h2).mono ?_
  rintro e w' ⟨rfl, rl', rc', q1, q2, q3⟩
  simp at h9 h10
  refine ⟨rfl, ⟨bl, bd, m, cl, cd, rl', rc', h1.turned q2 (by simp; omega) (by simp; omega) (by simp; omega) (by simp; omega), q1, h3, h4, h5, h6, h7, by omega, by simp; omega, by simp; omega⟩, q2.below (Below.refl B w) ?_ hB⟩
  intro x hx
  simp at hx
  omega
theorem rget {B : Nat} {w : World} {s r : Nat} {T U : List Fr} {most : Int} (H : Both B w s r T U most) (i : Int) :
    Calls Try.prog 14 #[.pointer (some ⟨r, 0, none⟩), .int .i64 i] w fun e w' => e = .returned (.tuple #[(FMath.get U i).1.val, .bool (FMath.get U i).2]) ∧ Below w.heap.size w w' := by
  obtain ⟨rl, rc, h⟩ := H.ref
  exact RRep.get_calls w r rl rc U most i h
theorem rdeep {B : Nat} {w : World} {s r : Nat} {T U : List Fr} {most : Int} (H : Both B w s r T U most) (i : Int) :
    Calls Try.prog 17 #[.pointer (some ⟨r, 0, none⟩), .int .i64 i] w fun e w' => e = .returned (.int .i64 (deep U i)) ∧ w' = w := by
  obtain ⟨rl, rc, h⟩ := H.ref
  exact RRep.deep_any w r rl rc U most h (i.toNat + 1) i (by omega)
theorem bnew {B : Nat} {w : World} {s : Nat} {most : Int} (H : SAt B w s [] most) (h0 : 0 ≤ most) (h1 : most ≤ 1048576) (hB : B ≤ w.heap.size) :
    Calls Try.prog 9 #[.int .i64 most] w fun e w' => ∃ r, e = .returned (.tuple #[.pointer (some ⟨r, 0, none⟩), .int .i64 0]) ∧ Both B w' s r [] [] most ∧ Below w.heap.size w w' := by
  obtain ⟨bl, bd, m, cl, cd, g1, g2, g3, g4, g5⟩ := H
  have ls := g1.lts
  refine (RRep.new_yes w most h0 h1).mono ?_
  rintro e w' ⟨r, rl, rc, rfl, q1, q2, q3, q4⟩
  exact ⟨r, rfl, ⟨bl, bd, m, cl, cd, rl, rc, g1.below q2, q1, g2, g3, g4, g5, by omega, by omega, by simp; omega, by simp; omega⟩, q2⟩
theorem cell_below {w w' : World} (hb : Below w.heap.size w w') {a : Addr} {v : Value} (h : w.cell? a = some v) : w'.cell? a = some v := (hb.cell (World.block_lt_of_cell? w a h)).trans h
theorem ref_calls (w : World) (c : Fr) : Calls Try.prog 12 #[c.val] w fun e w' => e = .returned c.val ∧ Below w.heap.size w w' := by
  have hu := Try.underlying35
  obtain ⟨k, n, t, f, x⟩ := c
  simp only [Fr.val, Fr.cells]
  go_enter Try.func12, Try.ntmps12
  go_wp2
  refine bodyPost_ret (results_cell_row rfl _ _ (w.heap.size + 1) 35 #[.int .i64 k, .int .i64 n, .int .i64 t, .int .i64 f, .int .i64 x] (0, 0) _ rfl ?_ hu rfl (by kernel_rfl)) rfl ?_
  · exact FPutNew.new_at _ _ _ (by simp)
  · exact ⟨rfl, ((Below.refl _ _).alloc (Nat.le_refl _) _).alloc (by simp) _⟩
end Go.Proofs.Ytajflmpdpggcgaa.FBoth
