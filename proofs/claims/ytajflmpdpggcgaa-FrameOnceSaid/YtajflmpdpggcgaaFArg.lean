/- A slice of frames that came in: its cells. -/
import Derived.Test.YtajflmpdpggcgaaFRep
import Derived.Deep.Slices
import Derived.ChangeSame
import Derived.OpenShut
namespace Go.Proofs.Ytajflmpdpggcgaa.FArg
open Go.RowKit FMath FKey FRep Go.ChangeShapes Go.WideShapes Go.Deep

instance : Inhabited Fr := ⟨zero⟩
/-- the frames of a slice that came in -/
def FrArg (W : World) (a : Option Addr) (len : Nat) (L : List Fr) : Prop := L.length = len ∧ len ≤ maxLen ∧ ∀ i (h : i < L.length), ∃ b o, a = some ⟨b, o, none⟩ ∧
  W.cell? ⟨b, o + i * 5, none⟩ = some (.int .i64 L[i].k) ∧ W.cell? ⟨b, o + i * 5 + 1, none⟩ = some (.int .i64 L[i].n) ∧ W.cell? ⟨b, o + i * 5 + 2, none⟩ = some (.int .i64 L[i].t) ∧ W.cell? ⟨b, o + i * 5 + 3, none⟩ = some (.int .i64 L[i].f) ∧ W.cell? ⟨b, o + i * 5 + 4, none⟩ = some (.int .i64 L[i].x)
theorem plain_of_cell {w : World} {a : Addr} {v : Value} (h : w.cell? a = some v) : a = ⟨a.block, a.off, none⟩ := by
  obtain ⟨b, o, sp⟩ := a
  cases sp with
  | none => rfl
  | some x =>
    exfalso
    unfold World.cell? at h
    simp at h
    split at h <;> simp at h
variable {H : Type} {enc : TypeId × Value → H} {w : World} {base : Nat} {spare : Nat → Bool} {held : Bool}
theorem open_frames {a : Option Addr} {len cap : Nat} {d : DataW H} {p : List MemPlace} (h : DataW.Trod enc Try.prog w base spare held 22 (.slice a len cap) d p) : ∃ L, FrArg w a len L := by
  obtain ⟨fuel, hf⟩ := h
  have ce : Try.prog.cellsOf 33 = 5 := by kernel_rfl
  have ci : Try.prog.cellsOf 3 = 1 := by kernel_rfl
  rcases open_slice Try.underlying22 hf with ⟨hcs, _⟩ | ⟨x, l, c, m, n, D, Pl, hcs, _, hl, hm, hmm, _, hx⟩
  · simp [Value.cells] at hcs
    obtain ⟨rfl, rfl, rfl⟩ := hcs
    exact ⟨[], rfl, by decide, fun i h => absurd h (by simp)⟩
  · simp [Value.cells] at hcs
    obtain ⟨rfl, rfl, rfl⟩ := hcs
    have hlm : len ≤ m := by rw [hmm]; split <;> omega
    have each : ∀ i, i < len → ∃ f : Fr, w.cell? (x.add (i * 5)) = some (.int .i64 f.k) ∧ w.cell? (x.add (i * 5 + 1)) = some (.int .i64 f.n) ∧ w.cell? (x.add (i * 5 + 2)) = some (.int .i64 f.t) ∧ w.cell? (x.add (i * 5 + 3)) = some (.int .i64 f.f) ∧ w.cell? (x.add (i * 5 + 4)) = some (.int .i64 f.x) := by
      intro i hi
      obtain ⟨cs', h1, h2⟩ := hx i (by omega)
      rw [ce] at h1
      obtain ⟨_, hlen, hcell⟩ := World.cells?_some h1
      obtain ⟨xs, k, hk, hxy, _, hxl, hff⟩ := DataW.trod_struct Try.underlying33 h2
      match xs, hxl, cs', hlen with
      | [y0, y1, y2, y3, y4], _, [v0, v1, v2, v3, v4], _ =>
        have g0 := hff 0 _ rfl
        have g1 := hff 1 _ rfl
        have g2 := hff 2 _ rfl
        have g3 := hff 3 _ rfl
        have g4 := hff 4 _ rfl
        simp [ci] at g0 g1 g2 g3 g4
        obtain ⟨n0, q0, _⟩ := DataW.trod_int Try.underlying3 g0
        obtain ⟨n1, q1, _⟩ := DataW.trod_int Try.underlying3 g1
        obtain ⟨n2, q2, _⟩ := DataW.trod_int Try.underlying3 g2
        obtain ⟨n3, q3, _⟩ := DataW.trod_int Try.underlying3 g3
        obtain ⟨n4, q4, _⟩ := DataW.trod_int Try.underlying3 g4
        have e0 := hcell 0 (by omega)
        have e1 := hcell 1 (by omega)
        have e2 := hcell 2 (by omega)
        have e3 := hcell 3 (by omega)
        have e4 := hcell 4 (by omega)
        rw [add_add] at e0 e1 e2 e3 e4
        simp at q0 q1 q2 q3 q4
        subst q0 q1 q2 q3 q4
        exact ⟨⟨n0, n1, n2, n3, n4⟩, by simpa using e0, by simpa using e1, by simpa using e2, by simpa using e3, by simpa using e4⟩
    obtain ⟨F, hF⟩ := choose_lt (α := Fr) each
    refine ⟨(List.range len).map F, by simp, by omega, fun i hi => ?_⟩
    have hil : i < len := by simpa using hi
    have hp : x = ⟨x.block, x.off, none⟩ := plain_of_cell (by simpa [Addr.add] using (hF 0 (by omega)).1)
    have hFi := hF i hil
    refine ⟨x.block, x.off, by rw [← hp], ?_⟩
    rw [hp] at hFi
    simp only [WideShapes.add_plain] at hFi
    simpa [Nat.add_assoc] using hFi
end Go.Proofs.Ytajflmpdpggcgaa.FArg
