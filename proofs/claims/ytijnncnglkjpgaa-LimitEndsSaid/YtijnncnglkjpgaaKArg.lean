/- What comes in: budgets, numbers, rows of numbers. -/
import Derived.Test.YtijnncnglkjpgaaKFixed
import Derived.Deep.Slices
import Derived.Deep.Grids
import Derived.ChangeSame
import Derived.OpenShut
import Derived.Laws.Cover2
namespace Go.Proofs.Ytijnncnglkjpgaa.KArg
open Go.RowKit Go.ChangeShapes Go.WideShapes Go.Deep
set_option linter.unusedVariables false

variable {H : Type} {enc : TypeId × Value → H} {w : World} {base : Nat} {spare : Nat → Bool} {held : Bool}
theorem trod_float {P : Program} {t : TypeId} {fuel : Nat} {cs : List Value} {x : DataW H × List MemPlace} {k : FloatKind} (ht : P.underlying t = some (.float k)) (h : DataW.trod enc P w base spare held fuel t cs = some x) : ∃ n, cs = [.float k n] ∧ (Lit.float k n).wf = true := by
  cases fuel with
  | zero => simp [DataW.trod] at h
  | succ n =>
    unfold DataW.trod at h
    rw [ht] at h
    split at h <;> simp_all
theorem open_f64 {d : DataW H} {p : List MemPlace} {r : Reach} {b0 : Nat} {v : Value} (hv : Value.okWide Try.prog w r b0 22 v) (h : DataW.Trod enc Try.prog w base spare held 22 v d p) : ∃ z : Nat, v = .float .f64 z ∧ z < 18446744073709551616 := by
  obtain ⟨b, rfl, _, _, hw⟩ := open_float Try.underlying22 hv h
  exact ⟨b, rfl, by simpa [Lit.wf] using hw⟩
theorem open_budget {r : Reach} {b0 : Nat} {v : Value} {d : DataW H} {p : List MemPlace} (hv : Value.okWide Try.prog w r b0 24 v) (h : DataW.Trod enc Try.prog w base spare held 24 v d p) :
    ∃ z : Nat × Nat, v = .agg #[.float .f64 z.1, .float .f64 z.2] ∧ z.1 < 18446744073709551616 ∧ z.2 < 18446744073709551616 := by
  have c1 : Try.prog.cellsOf 22 = 1 := by kernel_rfl
  have c2 : Try.prog.cellsOf 24 = 2 := by kernel_rfl
  have ha : ∃ cs, v = .agg cs ∧ cs.size = 2 := by
    simp only [Value.okWide, Try.underlying24] at hv
    obtain ⟨cs, h1, h2, _⟩ := hv
    exact ⟨cs, h1, by rw [h2, c2]⟩
  obtain ⟨cs, rfl, hs⟩ := ha
  obtain ⟨fuel, hf⟩ := h
  obtain ⟨xs, k, _, _, _, hxl, hff⟩ := DataW.trod_struct Try.underlying24 hf
  obtain ⟨l, rfl⟩ : ∃ l : List Value, cs = l.toArray := ⟨cs.toList, by simp⟩
  match l, (by simpa using hs : l.length = 2) with
  | [v0, v1], _ =>
    match xs, hxl with
    | [y0, y1], _ =>
      have g0 := hff 0 _ rfl
      have g1 := hff 1 _ rfl
      simp [Value.cells, c1] at g0 g1
      obtain ⟨n0, q0, w0⟩ := trod_float Try.underlying22 g0
      obtain ⟨n1, q1, w1⟩ := trod_float Try.underlying22 g1
      simp at q0 q1
      subst q0 q1
      exact ⟨(n0, n1), rfl, by simpa [Lit.wf] using w0, by simpa [Lit.wf] using w1⟩
/-- a row of numbers that came in -/
def IntArg (W : World) (k : IntKind) (a : Option Addr) (len : Nat) (Z : List Int) : Prop := Z.length = len ∧ len ≤ maxLen ∧ (∀ i (h : i < Z.length), ∃ b o, a = some ⟨b, o, none⟩ ∧ W.cell? ⟨b, o + i, none⟩ = some (.int k Z[i])) ∧ ∀ n ∈ Z, (Lit.int k n).wf = true
def BoolArg (W : World) (a : Option Addr) (len : Nat) (Z : Nat → Bool) : Prop := len ≤ maxLen ∧ (∀ i, i < len → ∃ b o, a = some ⟨b, o, none⟩ ∧ W.cell? ⟨b, o + i, none⟩ = some (.bool (Z i)))
theorem plain_of_cell {w : World} {a : Addr} {v : Value} (h : w.cell? a = some v) : a = ⟨a.block, a.off, none⟩ := by
  obtain ⟨b, o, sp⟩ := a
  cases sp with
  | none => rfl
  | some x =>
    exfalso
    unfold World.cell? at h
    simp at h
    split at h <;> simp at h
theorem open_introw {t e : TypeId} {k : IntKind} {a : Option Addr} {len cap : Nat} {d : DataW H} {p : List MemPlace} (ht : Try.prog.underlying t = some (.slice e)) (he : Try.prog.underlying e = some (.int k)) (hc : Try.prog.cellsOf e = 1)
    (h : DataW.Trod enc Try.prog w base (fun _ => true) held t (.slice a len cap) d p) : ∃ Z, IntArg w k a len Z := by
  obtain ⟨fuel, hf⟩ := h
  rcases open_ints ht he hc hf with ⟨hcs, _⟩ | ⟨x, l, c, zs, hcs, _, hl, hm, hz, _, hcell, hwf⟩
  · simp [Value.cells] at hcs
    obtain ⟨rfl, rfl, rfl⟩ := hcs
    exact ⟨[], rfl, by decide, fun i h => absurd h (by simp), fun n h => absurd h (by simp)⟩
  · simp [Value.cells] at hcs
    obtain ⟨rfl, rfl, rfl⟩ := hcs
    simp at hz
    refine ⟨zs.take len, by simp; omega, by omega, fun i hi => ?_, fun n hn => hwf n (List.mem_of_mem_take hn)⟩
    have hil : i < len := by simp at hi; omega
    have hp : x = ⟨x.block, x.off, none⟩ := plain_of_cell (by simpa [Addr.add] using hcell 0 (by omega))
    refine ⟨x.block, x.off, by rw [← hp], ?_⟩
    have h3 := hcell i (by omega)
    rw [hp, WideShapes.add_plain] at h3
    rw [h3]
    simp [List.getElem_take, List.getD_eq_getElem?_getD, List.getElem?_eq_getElem (show i < zs.length by omega)]
theorem open_boolrow {t e : TypeId} {a : Option Addr} {len cap : Nat} {d : DataW H} {p : List MemPlace} (ht : Try.prog.underlying t = some (.slice e)) (he : Try.prog.underlying e = some .bool) (hc : Try.prog.cellsOf e = 1)
    (h : DataW.Trod enc Try.prog w base (fun _ => true) held t (.slice a len cap) d p) : ∃ Z, BoolArg w a len Z := by
  obtain ⟨fuel, hf⟩ := h
  rcases open_bools ht he hc hf with ⟨hcs, _⟩ | ⟨x, l, c, B, hcs, _, hl, hm, _, hcell⟩
  · simp [Value.cells] at hcs
    obtain ⟨rfl, rfl, rfl⟩ := hcs
    exact ⟨fun _ => false, by decide, fun i h => absurd h (by omega)⟩
  · simp [Value.cells] at hcs
    obtain ⟨rfl, rfl, rfl⟩ := hcs
    refine ⟨B, by omega, fun i hi => ?_⟩
    have hp : x = ⟨x.block, x.off, none⟩ := plain_of_cell (by simpa [Addr.add] using hcell 0 (by omega))
    refine ⟨x.block, x.off, by rw [← hp], ?_⟩
    have h3 := hcell i (by omega)
    rw [hp, WideShapes.add_plain] at h3
    exact h3
end Go.Proofs.Ytijnncnglkjpgaa.KArg
