/- What comes in: sets, bytes. -/
import Derived.Test.YtdociniomegpnaaDoorCFixW
import Derived.Test.YtdociniomegpnaaDoorCLaid
import Derived.ChangeSame
import Derived.OpenShut
namespace Go.Proofs.YtdociniomegpnaaDoor.CArg
open Go.RowKit Go.ChangeShapes Go.WideShapes CBits CSet
set_option linter.unusedVariables false
set_option linter.unusedSimpArgs false

variable {H : Type} {enc : TypeId × Value → H} {w : World} {base : Nat} {spare : Nat → Bool} {held : Bool}
theorem of_words (a b c d : Nat) (ha : a < 18446744073709551616) (hb : b < 18446744073709551616) (hc : c < 18446744073709551616) (hd : d < 18446744073709551616) :
    ∃ N : Nat, N < 2 ^ 256 ∧ #[.int .u64 (a : Int), .int .u64 (b : Int), .int .u64 (c : Int), .int .u64 (d : Int)] = sc N := by
  refine ⟨a + 18446744073709551616 * b + 340282366920938463463374607431768211456 * c + 6277101735386680763835789423207666416102355444464034512896 * d, ?_, ?_⟩
  · show _ < 115792089237316195423570985008687907853269984665640564039457584007913129639936
    omega
  · unfold sc wd
    rw [show (a + 18446744073709551616 * b + 340282366920938463463374607431768211456 * c + 6277101735386680763835789423207666416102355444464034512896 * d) / 2 ^ (64 * 0) % 2 ^ 64 = a by
        show (a + 18446744073709551616 * b + 340282366920938463463374607431768211456 * c + 6277101735386680763835789423207666416102355444464034512896 * d) / 1 % 18446744073709551616 = a
        omega,
      show (a + 18446744073709551616 * b + 340282366920938463463374607431768211456 * c + 6277101735386680763835789423207666416102355444464034512896 * d) / 2 ^ (64 * 1) % 2 ^ 64 = b by
        show (a + 18446744073709551616 * b + 340282366920938463463374607431768211456 * c + 6277101735386680763835789423207666416102355444464034512896 * d) / 18446744073709551616 % 18446744073709551616 = b
        omega,
      show (a + 18446744073709551616 * b + 340282366920938463463374607431768211456 * c + 6277101735386680763835789423207666416102355444464034512896 * d) / 2 ^ (64 * 2) % 2 ^ 64 = c by
        show (a + 18446744073709551616 * b + 340282366920938463463374607431768211456 * c + 6277101735386680763835789423207666416102355444464034512896 * d) / 340282366920938463463374607431768211456 % 18446744073709551616 = c
        omega,
      show (a + 18446744073709551616 * b + 340282366920938463463374607431768211456 * c + 6277101735386680763835789423207666416102355444464034512896 * d) / 2 ^ (64 * 3) % 2 ^ 64 = d by
        show (a + 18446744073709551616 * b + 340282366920938463463374607431768211456 * c + 6277101735386680763835789423207666416102355444464034512896 * d) / 6277101735386680763835789423207666416102355444464034512896 % 18446744073709551616 = d
        omega]
theorem open_set {r : Reach} {b0 : Nat} {v : Value} {d : DataW H} {p : List MemPlace} (hv : Value.okWide Tryd.prog w r b0 25 v) (h : DataW.Trod enc Tryd.prog w base spare held 25 v d p) :
    ∃ N : Nat, v = .agg (sc N) ∧ N < 2 ^ 256 := by
  have c4 : Tryd.prog.cellsOf 23 = 4 := by kernel_rfl
  have c5 : Tryd.prog.cellsOf 25 = 4 := by kernel_rfl
  have c1 : Tryd.prog.cellsOf 22 = 1 := by kernel_rfl
  have ha : ∃ cs, v = .agg cs ∧ cs.size = 4 := by
    simp only [Value.okWide, Tryd.underlying25] at hv
    obtain ⟨cs, h1, h2, _⟩ := hv
    exact ⟨cs, h1, by rw [h2, c5]⟩
  obtain ⟨cs, rfl, hs⟩ := ha
  obtain ⟨fuel, hf⟩ := h
  obtain ⟨xs, m, _, _, _, hxl, hff⟩ := DataW.trod_struct Tryd.underlying25 hf
  have wfu : ∀ n : Int, (Lit.int .u64 n).wf = true → ∃ m : Nat, n = (m : Int) ∧ m < 18446744073709551616 := fun n h => by
    simp [Lit.wf, IntKind.min, IntKind.max, IntKind.signed, IntKind.bits] at h
    exact ⟨n.toNat, by omega, by omega⟩
  obtain ⟨l, rfl⟩ : ∃ l : List Value, cs = l.toArray := ⟨cs.toList, by simp⟩
  match l, (by simpa using hs : l.length = 4) with
  | [v0, v1, v2, v3], _ =>
    match xs, hxl with
    | [y], _ =>
      have g := hff 0 _ rfl
      simp [Value.cells, c4] at g
      obtain ⟨xs', m', _, _, _, hxl', hel⟩ := DataW.trod_array Tryd.underlying23 g
      match xs', hxl' with
      | [y0, y1, y2, y3], _ =>
        have g0 := hel 0 (by omega)
        have g1 := hel 1 (by omega)
        have g2 := hel 2 (by omega)
        have g3 := hel 3 (by omega)
        simp [Value.cells, c1] at g0 g1 g2 g3
        obtain ⟨n0, q0, _, w0⟩ := DataW.trod_int Tryd.underlying22 g0
        obtain ⟨n1, q1, _, w1⟩ := DataW.trod_int Tryd.underlying22 g1
        obtain ⟨n2, q2, _, w2⟩ := DataW.trod_int Tryd.underlying22 g2
        obtain ⟨n3, q3, _, w3⟩ := DataW.trod_int Tryd.underlying22 g3
        simp at q0 q1 q2 q3
        subst q0 q1 q2 q3
        obtain ⟨a, rfl, ha⟩ := wfu _ w0
        obtain ⟨b, rfl, hb⟩ := wfu _ w1
        obtain ⟨c, rfl, hc⟩ := wfu _ w2
        obtain ⟨e, rfl, he⟩ := wfu _ w3
        obtain ⟨N, hN, hE⟩ := of_words a b c e ha hb hc he
        exact ⟨N, congrArg Value.agg hE, hN⟩
theorem u8_of {a : Int} (h : (Lit.int .u8 a).wf = true) : ∃ c : Nat, a = (c : Int) ∧ c < 256 := by
  simp [Lit.wf, IntKind.min, IntKind.max, IntKind.signed, IntKind.bits] at h
  exact ⟨a.toNat, by omega, by omega⟩
end Go.Proofs.YtdociniomegpnaaDoor.CArg
