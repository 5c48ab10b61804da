/- Tokens that came in: their cells. -/
import Derived.Test.YtdlgceepanegdaaDoorHShow
import Derived.Deep.Slices
import Derived.ChangeSame
import Derived.OpenShut
namespace Go.Proofs.YtdlgceepanegdaaDoor.HArg
open Go.RowKit Go.ChangeShapes Go.WideShapes Go.Deep
set_option linter.unusedVariables false
/-- the tokens of a slice that came in -/
def TkArg (W : World) (a : Option Addr) (len cap : Nat) (L : List (Int × Int)) : Prop := L.length = len ∧ len ≤ cap ∧ cap ≤ maxLen ∧ (a = none → cap = 0) ∧ (∀ x ∈ L, (-9223372036854775808 ≤ x.1 ∧ x.1 ≤ 9223372036854775807) ∧ -9223372036854775808 ≤ x.2 ∧ x.2 ≤ 9223372036854775807) ∧
  (0 < L.length → ∃ ad, a = some ad ∧ ∀ q p, L[q]? = some p → W.cell? (ad.add (q * 2)) = some (.int .i64 p.1) ∧ W.cell? (ad.add (q * 2 + 1)) = some (.int .i64 p.2))
theorem wf_i64 {n : Int} (h : (Lit.int .i64 n).wf = true) : -9223372036854775808 ≤ n ∧ n ≤ 9223372036854775807 := by
  simp [Lit.wf, IntKind.min, IntKind.max, IntKind.signed, IntKind.bits] at h
  omega
variable {H : Type} {enc : TypeId × Value → H} {w : World} {base : Nat} {spare : Nat → Bool} {held : Bool}
theorem open_toks {a : Option Addr} {len cap : Nat} {d : DataW H} {p : List MemPlace} (h : DataW.Trod enc Tryd.prog w base spare held 22 (.slice a len cap) d p) : ∃ L, TkArg w a len cap L := by
  obtain ⟨fuel, hf⟩ := h
  have ce : Tryd.prog.cellsOf 24 = 2 := by kernel_rfl
  have ci : Tryd.prog.cellsOf 3 = 1 := by kernel_rfl
  rcases open_slice Tryd.underlying22 hf with ⟨hcs, _⟩ | ⟨x, l, c, m, n, D, Pl, hcs, _, hlc, hcm, hmm, _, hx⟩
  · simp [Value.cells] at hcs
    obtain ⟨rfl, rfl, rfl⟩ := hcs
    exact ⟨[], rfl, by decide, by decide, fun _ => rfl, by simp, fun h => absurd h (by simp)⟩
  · simp [Value.cells] at hcs
    obtain ⟨rfl, rfl, rfl⟩ := hcs
    have hlm : len ≤ m := by rw [hmm]; split <;> omega
    have each : ∀ i, i < len → ∃ f : Int × Int, (((-9223372036854775808 ≤ f.1 ∧ f.1 ≤ 9223372036854775807) ∧ -9223372036854775808 ≤ f.2 ∧ f.2 ≤ 9223372036854775807)) ∧ w.cell? (x.add (i * 2)) = some (.int .i64 f.1) ∧ w.cell? (x.add (i * 2 + 1)) = some (.int .i64 f.2) := by
      intro i hi
      obtain ⟨cs', h1, h2⟩ := hx i (by omega)
      rw [ce] at h1
      obtain ⟨_, hlen, hcell⟩ := World.cells?_some h1
      obtain ⟨xs, k, hk, hxy, _, hxl, hff⟩ := DataW.trod_struct Tryd.underlying24 h2
      match xs, hxl, cs', hlen with
      | [y0, y1], _, [v0, v1], _ =>
        have g0 := hff 0 _ rfl
        have g1 := hff 1 _ rfl
        simp [ci] at g0 g1
        obtain ⟨n0, q0, _, w0⟩ := DataW.trod_int Tryd.underlying3 g0
        obtain ⟨n1, q1, _, w1⟩ := DataW.trod_int Tryd.underlying3 g1
        have e0 := hcell 0 (by omega)
        have e1 := hcell 1 (by omega)
        rw [add_add] at e0 e1
        simp at q0 q1
        subst q0 q1
        exact ⟨⟨n0, n1⟩, ⟨wf_i64 w0, wf_i64 w1⟩, by simpa using e0, by simpa using e1⟩
    obtain ⟨F, hF⟩ := choose_lt (α := Int × Int) each
    refine ⟨(List.range len).map F, by simp, hlc, hcm, (fun e => by cases e), fun y hy => ?_, fun _ => ⟨x, rfl, fun q p hq => ?_⟩⟩
    · simp only [List.mem_map, List.mem_range] at hy
      obtain ⟨i, hi, rfl⟩ := hy
      exact (hF i hi).1
    · simp only [List.getElem?_map, Option.map_eq_some_iff] at hq
      obtain ⟨i, hi, rfl⟩ := hq
      have hqi := (List.getElem?_eq_some_iff.1 hi)
      have hlt : q < len := by simpa using hqi.1
      obtain rfl : q = i := by have := hqi.2; simpa using this
      exact (hF q hlt).2
/-- one token that came in -/
theorem open_tok {r : Reach} {b0 : Nat} {v : Value} {d : DataW H} {p : List MemPlace} (hv : Value.okWide Tryd.prog w r b0 24 v) (h : DataW.Trod enc Tryd.prog w base spare held 24 v d p) :
    ∃ t : Int × Int, v = .agg #[.int .i64 t.1, .int .i64 t.2] ∧ (-9223372036854775808 ≤ t.2 ∧ t.2 ≤ 9223372036854775807) := by
  have c2 : Tryd.prog.cellsOf 24 = 2 := by kernel_rfl
  have c1 : Tryd.prog.cellsOf 3 = 1 := by kernel_rfl
  have ha : ∃ cs, v = .agg cs ∧ cs.size = 2 := by
    simp only [Value.okWide, Tryd.underlying24] at hv
    obtain ⟨cs, h1, h2, _⟩ := hv
    exact ⟨cs, h1, by rw [h2, c2]⟩
  obtain ⟨cs, rfl, hs⟩ := ha
  obtain ⟨fuel, hf⟩ := h
  obtain ⟨xs, m, _, _, _, hxl, hff⟩ := DataW.trod_struct Tryd.underlying24 hf
  obtain ⟨l, rfl⟩ : ∃ l : List Value, cs = l.toArray := ⟨cs.toList, by simp⟩
  match l, (by simpa using hs : l.length = 2) with
  | [v0, v1], _ =>
    match xs, hxl with
    | [y0, y1], _ =>
      have g0 := hff 0 _ rfl
      have g1 := hff 1 _ rfl
      simp [Value.cells, c1] at g0 g1
      obtain ⟨n0, q0, _, w0⟩ := DataW.trod_int Tryd.underlying3 g0
      obtain ⟨n1, q1, _, w1⟩ := DataW.trod_int Tryd.underlying3 g1
      simp at q0 q1
      subst q0 q1
      exact ⟨(n0, n1), rfl, wf_i64 w1⟩
end Go.Proofs.YtdlgceepanegdaaDoor.HArg
