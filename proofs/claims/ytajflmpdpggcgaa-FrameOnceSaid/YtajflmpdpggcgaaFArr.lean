/- Four bytes that came in as an array. -/
import Derived.Test.YtajflmpdpggcgaaFSat
import Derived.OpenShut
import Derived.ChangeSame
namespace Go.Proofs.Ytajflmpdpggcgaa.FArr
open Go.RowKit FMath FKey FRep FSat Go.ChangeShapes Go.WideShapes

variable {H : Type} {enc : TypeId × Value → H} {w : World} {base : Nat} {spare : Nat → Bool} {held : Bool}
theorem open_bytes4 {r : Reach} {b0 : Nat} {v : Value} {d : DataW H} {p : List MemPlace} (hv : Value.okWide Try.prog w r b0 52 v) (h : DataW.Trod enc Try.prog w base spare held 52 v d p) :
    ∃ q : Int × Int × Int × Int, v = .agg #[.int .u8 q.1, .int .u8 q.2.1, .int .u8 q.2.2.1, .int .u8 q.2.2.2] ∧ (0 ≤ q.1 ∧ q.1 ≤ 255) ∧ (0 ≤ q.2.1 ∧ q.2.1 ≤ 255) ∧ (0 ≤ q.2.2.1 ∧ q.2.2.1 ≤ 255) ∧ (0 ≤ q.2.2.2 ∧ q.2.2.2 ≤ 255) := by
  have c4 : Try.prog.cellsOf 52 = 4 := by kernel_rfl
  have c1 : Try.prog.cellsOf 5 = 1 := by kernel_rfl
  have ha : ∃ cs, v = .agg cs ∧ cs.size = 4 := by
    simp only [Value.okWide, Try.underlying52] at hv
    obtain ⟨cs, h1, h2, _⟩ := hv
    exact ⟨cs, h1, by rw [h2, c4]⟩
  obtain ⟨cs, rfl, hs⟩ := ha
  obtain ⟨fuel, hf⟩ := h
  obtain ⟨xs, m, _, _, _, hxl, hel⟩ := DataW.trod_array Try.underlying52 hf
  have wfu : ∀ n : Int, (Lit.int .u8 n).wf = true → 0 ≤ n ∧ n ≤ 255 := fun n h => by
    simp [Lit.wf, IntKind.min, IntKind.max, IntKind.signed, IntKind.bits] at h
    omega
  obtain ⟨l, rfl⟩ : ∃ l : List Value, cs = l.toArray := ⟨cs.toList, by simp⟩
  match l, (by simpa using hs : l.length = 4) with
  | [v0, v1, v2, v3], _ =>
    match xs, hxl with
    | [y0, y1, y2, y3], _ =>
      have g0 := hel 0 (by omega)
      have g1 := hel 1 (by omega)
      have g2 := hel 2 (by omega)
      have g3 := hel 3 (by omega)
      simp [Value.cells, c1] at g0 g1 g2 g3
      obtain ⟨n0, q0, _, w0⟩ := DataW.trod_int Try.underlying5 g0
      obtain ⟨n1, q1, _, w1⟩ := DataW.trod_int Try.underlying5 g1
      obtain ⟨n2, q2, _, w2⟩ := DataW.trod_int Try.underlying5 g2
      obtain ⟨n3, q3, _, w3⟩ := DataW.trod_int Try.underlying5 g3
      simp at q0 q1 q2 q3
      subst q0 q1 q2 q3
      exact ⟨(n0, n1, n2, n3), rfl, wfu _ w0, wfu _ w1, wfu _ w2, wfu _ w3⟩
/-- the store at s, and blocks beside it -/
def SOff (E : List Nat) (B : Nat) (w : World) (s : Nat) (T : List Fr) (most : Int) : Prop := ∃ bl bd m cl cd, SHas w s bl bd m cl cd T most ∧ B ≤ s ∧ B ≤ bl ∧ B ≤ bd ∧ B ≤ m ∧ ∀ x ∈ E, x < w.heap.size ∧ x ∉ [s, bl, bd, m]
theorem SOff.sat {E : List Nat} {B : Nat} {w : World} {s : Nat} {T : List Fr} {most : Int} (H : SOff E B w s T most) : SAt B w s T most := by
  obtain ⟨bl, bd, m, cl, cd, h1, h2, h3, h4, h5, _⟩ := H
  exact ⟨bl, bd, m, cl, cd, h1, h2, h3, h4, h5⟩
/-- new blocks are beside it -/
theorem SAt.off {B : Nat} {w w' : World} {s : Nat} {T : List Fr} {most : Int} (H : SAt B w s T most) (h : Below w.heap.size w w') (E : List Nat) (hE : ∀ x ∈ E, w.heap.size ≤ x ∧ x < w'.heap.size) : SOff E B w' s T most := by
  obtain ⟨bl, bd, m, cl, cd, h1, h2, h3, h4, h5⟩ := H
  have l := h1.lts
  refine ⟨bl, bd, m, cl, cd, h1.below h, h2, h3, h4, h5, fun x hx => ?_⟩
  have := hE x hx
  simp
  omega
theorem oput {E : List Nat} {B : Nat} {w : World} {s : Nat} {T : List Fr} {most : Int} (H : SOff E B w s T most) (a : Fr) (hB : B ≤ w.heap.size) :
    Calls Try.prog 10 #[.pointer (some ⟨s, 0, none⟩), a.val] w fun e w' => e = .returned (.tuple #[.int .i64 (put most T a).1, .int .i64 (put most T a).2.1]) ∧ SOff E B w' s (put most T a).2.2 most ∧ Below B w w' ∧ ∀ x ∈ E, w'.heap[x]? = w.heap[x]? := by
  obtain ⟨bl, bd, m, cl, cd, h1, h2, h3, h4, h5, h6⟩ := H
  refine (FPutAll.put_calls w s bl bd m cl cd T most a h1).mono ?_
  rintro e w' ⟨rfl, bl', bd', cl', cd', q1, q2, q3, q4⟩
  refine ⟨rfl, ⟨bl', bd', m, cl', cd', q1, h2, by omega, by omega, h5, fun x hx => ?_⟩, q2.below (Below.refl B w) ?_ hB, fun x hx => q2.block x (h6 x hx).1 (h6 x hx).2⟩
  · have h := h6 x hx
    have hs := q2.size
    simp at h ⊢
    omega
  · intro x hx
    simp at hx
    omega
end Go.Proofs.Ytajflmpdpggcgaa.FArr
