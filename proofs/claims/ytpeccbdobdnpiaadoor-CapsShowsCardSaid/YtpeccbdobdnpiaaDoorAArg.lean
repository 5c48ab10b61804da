/- What comes in: groups, arrays of numbers. -/
import Derived.Test.YtpeccbdobdnpiaaDoorACap
import Derived.Test.YtpeccbdobdnpiaaDoorAShow
import Derived.Deep.Slices
import Derived.ChangeSame
import Derived.OpenShut
namespace Go.Proofs.YtpeccbdobdnpiaaDoor.AArg
open Go.RowKit Go.ChangeShapes Go.WideShapes Go.Deep ACap AShow
set_option linter.unusedVariables false
variable {H : Type} {enc : TypeId × Value → H} {w : World} {base : Nat} {spare : Nat → Bool} {held : Bool}
theorem wf_i64 {n : Int} (h : (Lit.int .i64 n).wf = true) : -9223372036854775808 ≤ n ∧ n ≤ 9223372036854775807 := by
  simp [Lit.wf, IntKind.min, IntKind.max, IntKind.signed, IntKind.bits] at h
  omega
theorem wf_u8 {n : Int} (h : (Lit.int .u8 n).wf = true) : 0 ≤ n ∧ n < 256 := by
  simp [Lit.wf, IntKind.min, IntKind.max, IntKind.signed, IntKind.bits] at h
  omega
theorem one_of {cs : List Value} {i : Nat} {v : Value} (h : (cs.drop i).take 1 = [v]) : cs[i]? = some v := by
  have := congrArg (·[0]?) h
  simpa [List.getElem?_take, List.getElem?_drop] using this
theorem arr_ints {P : Program} {k : IntKind} {n fuel : Nat} {t e : TypeId} {cs : List Value} {x : DataW H × List MemPlace} (ht : P.underlying t = some (.array n e)) (he : P.underlying e = some (.int k)) (hc : P.cellsOf e = 1)
    (h : DataW.trod enc P w base spare held fuel t cs = some x) : ∃ L : Nat → Int, ∀ i, i < n → cs[i]? = some (.int k (L i)) ∧ (Lit.int k (L i)).wf = true := by
  obtain ⟨xs, m, _, _, _, hxl, hel⟩ := DataW.trod_array ht h
  have each : ∀ i, i < n → ∃ f : Int, cs[i]? = some (.int k f) ∧ (Lit.int k f).wf = true := by
    intro i hi
    have g := hel i hi
    rw [hc, Nat.mul_one, List.getElem?_eq_getElem (by omega)] at g
    obtain ⟨f, q, _, wf⟩ := DataW.trod_int he g
    exact ⟨f, one_of q, wf⟩
  exact choose_lt (α := Int) each
theorem arr_bools {P : Program} {n fuel : Nat} {t e : TypeId} {cs : List Value} {x : DataW H × List MemPlace} (ht : P.underlying t = some (.array n e)) (he : P.underlying e = some .bool) (hc : P.cellsOf e = 1)
    (h : DataW.trod enc P w base spare held fuel t cs = some x) : ∃ L : Nat → Bool, ∀ i, i < n → cs[i]? = some (.bool (L i)) := by
  obtain ⟨xs, m, _, _, _, hxl, hel⟩ := DataW.trod_array ht h
  have each : ∀ i, i < n → ∃ f : Bool, cs[i]? = some (.bool f) := by
    intro i hi
    have g := hel i hi
    rw [hc, Nat.mul_one, List.getElem?_eq_getElem (by omega)] at g
    obtain ⟨f, q, _⟩ := DataW.trod_bool he g
    exact ⟨f, one_of q⟩
  exact choose_lt (α := Bool) each
/-- an array of arrays of numbers -/
theorem arr_arr {P : Program} {k : IntKind} {n r fuel : Nat} {t u e : TypeId} {cs : List Value} {x : DataW H × List MemPlace} (ht : P.underlying t = some (.array n u)) (hu : P.underlying u = some (.array r e)) (he : P.underlying e = some (.int k)) (hc : P.cellsOf e = 1) (hcu : P.cellsOf u = r) (hr : 0 < r)
    (h : DataW.trod enc P w base spare held fuel t cs = some x) : ∃ L : Nat → Int, ∀ i, i < n * r → cs[i]? = some (.int k (L i)) ∧ (Lit.int k (L i)).wf = true := by
  obtain ⟨xs, m, _, _, _, hxl, hel⟩ := DataW.trod_array ht h
  have each : ∀ i, i < n → ∃ F : Nat → Int, ∀ j, j < r → cs[i * r + j]? = some (.int k (F j)) ∧ (Lit.int k (F j)).wf = true := by
    intro i hi
    have g := hel i hi
    rw [hcu, List.getElem?_eq_getElem (by omega)] at g
    obtain ⟨F, hF⟩ := arr_ints hu he hc g
    refine ⟨F, fun j hj => ⟨?_, (hF j hj).2⟩⟩
    have := (hF j hj).1
    rw [List.getElem?_take, if_pos hj, List.getElem?_drop] at this
    exact this
  obtain ⟨F, hF⟩ := choose_lt (α := Nat → Int) each
  refine ⟨fun i => F (i / r) (i % r), fun i hi => ?_⟩
  have h1 : i / r < n := Nat.div_lt_of_lt_mul (by rw [Nat.mul_comm]; exact hi)
  have h2 := hF (i / r) h1 (i % r) (Nat.mod_lt _ hr)
  rw [show i / r * r + i % r = i by rw [Nat.mul_comm]; exact Nat.div_add_mod i r] at h2
  exact h2
theorem agg_of {P : Program} {r : Reach} {b0 : Nat} {t : TypeId} {v : Value} {n : Nat} {e : TypeId} (hu : P.underlying t = some (.array n e)) (hv : Value.okWide P w r b0 t v) : ∃ l : List Value, v = .agg l.toArray ∧ l.length = P.cellsOf t := by
  simp only [Value.okWide, hu] at hv
  obtain ⟨cs, h1, h2, _⟩ := hv
  exact ⟨cs.toList, by simpa using h1, by simpa using h2⟩
theorem list_ext_of {l l' : List Value} {n : Nat} (h : l.length = n) (h' : l'.length = n) (hh : ∀ i, i < n → l[i]? = l'[i]?) : l = l' := by
  apply List.ext_getElem?
  intro i
  by_cases hi : i < n
  · exact hh i hi
  · rw [List.getElem?_eq_none (by omega), List.getElem?_eq_none (by omega)]
theorem open_four {r : Reach} {b0 : Nat} {v : Value} {d : DataW H} {p : List MemPlace} (hv : Value.okWide Tryd.prog w r b0 27 v) (h : DataW.Trod enc Tryd.prog w base spare held 27 v d p) :
    ∃ f : Nat → Int, v = .agg #[.int .i64 (f 0), .int .i64 (f 1), .int .i64 (f 2), .int .i64 (f 3)] ∧ ∀ i, i < 4 → -9223372036854775808 ≤ f i ∧ f i ≤ 9223372036854775807 := by
  obtain ⟨l, rfl, hl⟩ := agg_of Tryd.underlying27 hv
  rw [show Tryd.prog.cellsOf 27 = 4 by kernel_rfl] at hl
  obtain ⟨fuel, hf⟩ := h
  obtain ⟨f, hF⟩ := arr_ints Tryd.underlying27 Tryd.underlying3 (by kernel_rfl) hf
  simp only [Value.cells] at hF
  refine ⟨f, congrArg (fun x : List Value => Value.agg x.toArray) (list_ext_of (l' := [.int .i64 (f 0), .int .i64 (f 1), .int .i64 (f 2), .int .i64 (f 3)]) hl rfl fun i hi => ?_), fun i hi => wf_i64 (hF i hi).2⟩
  have := (hF i hi).1
  have hc : i = 0 ∨ i = 1 ∨ i = 2 ∨ i = 3 := by omega
  rcases hc with rfl | rfl | rfl | rfl <;> exact this
theorem open_three {r : Reach} {b0 : Nat} {v : Value} {d : DataW H} {p : List MemPlace} (hv : Value.okWide Tryd.prog w r b0 49 v) (h : DataW.Trod enc Tryd.prog w base spare held 49 v d p) :
    ∃ f : Nat → Int, v = .agg #[.int .u8 (f 0), .int .u8 (f 1), .int .u8 (f 2)] ∧ ∀ i, i < 3 → 0 ≤ f i ∧ f i < 256 := by
  obtain ⟨l, rfl, hl⟩ := agg_of Tryd.underlying49 hv
  rw [show Tryd.prog.cellsOf 49 = 3 by kernel_rfl] at hl
  obtain ⟨fuel, hf⟩ := h
  obtain ⟨f, hF⟩ := arr_ints Tryd.underlying49 Tryd.underlying5 (by kernel_rfl) hf
  simp only [Value.cells] at hF
  refine ⟨f, congrArg (fun x : List Value => Value.agg x.toArray) (list_ext_of (l' := [.int .u8 (f 0), .int .u8 (f 1), .int .u8 (f 2)]) hl rfl fun i hi => ?_), fun i hi => wf_u8 (hF i hi).2⟩
  have := (hF i hi).1
  have hc : i = 0 ∨ i = 1 ∨ i = 2 := by omega
  rcases hc with rfl | rfl | rfl <;> exact this
theorem open_six {r : Reach} {b0 : Nat} {v : Value} {d : DataW H} {p : List MemPlace} (hv : Value.okWide Tryd.prog w r b0 52 v) (h : DataW.Trod enc Tryd.prog w base spare held 52 v d p) :
    ∃ f : Nat → Int, v = .agg #[.int .u8 (f 0), .int .u8 (f 1), .int .u8 (f 2), .int .u8 (f 3), .int .u8 (f 4), .int .u8 (f 5)] ∧ ∀ i, i < 6 → 0 ≤ f i ∧ f i < 256 := by
  obtain ⟨l, rfl, hl⟩ := agg_of Tryd.underlying52 hv
  rw [show Tryd.prog.cellsOf 52 = 6 by kernel_rfl] at hl
  obtain ⟨fuel, hf⟩ := h
  obtain ⟨f, hF⟩ := arr_arr Tryd.underlying52 Tryd.underlying49 Tryd.underlying5 (by kernel_rfl) (by kernel_rfl) (by decide) hf
  simp only [Value.cells] at hF
  refine ⟨f, congrArg (fun x : List Value => Value.agg x.toArray) (list_ext_of (l' := [.int .u8 (f 0), .int .u8 (f 1), .int .u8 (f 2), .int .u8 (f 3), .int .u8 (f 4), .int .u8 (f 5)]) hl rfl fun i hi => ?_), fun i hi => wf_u8 (hF i hi).2⟩
  have := (hF i hi).1
  have hc : i = 0 ∨ i = 1 ∨ i = 2 ∨ i = 3 ∨ i = 4 ∨ i = 5 := by omega
  rcases hc with rfl | rfl | rfl | rfl | rfl | rfl <;> exact this
theorem open_caps {r : Reach} {b0 : Nat} {v : Value} {d : DataW H} {p : List MemPlace} (hv : Value.okWide Tryd.prog w r b0 26 v) (h : DataW.Trod enc Tryd.prog w base spare held 26 v d p) :
    ∃ z : (Nat → Bool) × (Nat → Int), v = .agg (cc z.1 z.2) ∧ in64 z.2 := by
  have ha : ∃ cs, v = .agg cs ∧ cs.size = 27 := by
    simp only [Value.okWide, Tryd.underlying26] at hv
    obtain ⟨cs, h1, h2, _⟩ := hv
    exact ⟨cs, h1, by rw [h2]; kernel_rfl⟩
  obtain ⟨cs, rfl, hs⟩ := ha
  obtain ⟨fuel, hf⟩ := h
  obtain ⟨xs, m, _, _, _, hxl, hff⟩ := DataW.trod_struct Tryd.underlying26 hf
  obtain ⟨l, rfl⟩ : ∃ l : List Value, cs = l.toArray := ⟨cs.toList, by simp⟩
  have hl : l.length = 27 := by simpa using hs
  simp only [Value.cells] at hff
  match xs, hxl with
  | [x0, x1], _ =>
    have g0 := hff 0 _ rfl
    have g1 := hff 1 _ rfl
    simp only [List.getElem_toArray, List.getElem_cons_zero, List.getElem_cons_succ] at g0 g1
    obtain ⟨b, hb⟩ := arr_bools Tryd.underlying22 Tryd.underlying4 (by kernel_rfl) g0
    obtain ⟨y, hy⟩ := arr_arr Tryd.underlying24 Tryd.underlying23 Tryd.underlying3 (by kernel_rfl) (by kernel_rfl) (by decide) g1
    have e0 : Tryd.prog.cellsOf 22 = 9 := by kernel_rfl
    have e1 : Tryd.prog.cellsOf 24 = 18 := by kernel_rfl
    have hb2 : ∀ i, i < 9 → l[i]? = some (.bool (b i)) := fun i hi => by
      have := hb i hi
      simp only [e0] at this
      rw [List.getElem?_take, if_pos hi, List.getElem?_drop] at this
      simpa using this
    have hy2 : ∀ i, i < 18 → l[9 + i]? = some (.int .i64 (y i)) := fun i hi => by
      have := (hy i (by omega)).1
      simp only [e1] at this
      rw [List.getElem?_take, if_pos hi, List.getElem?_drop] at this
      simpa using this
    refine ⟨(b, y), congrArg Value.agg ?_, fun i hi => wf_i64 (hy i (by omega)).2⟩
    apply Array.ext_getElem?
    intro i
    rw [List.getElem?_toArray]
    by_cases h9 : i < 9
    · rw [hb2 i h9]; exact (cc_is b y i h9).symm
    · by_cases h27 : i < 27
      · obtain ⟨j, rfl⟩ : ∃ j, i = 9 + j := ⟨i - 9, by omega⟩
        rw [hy2 j (by omega)]; exact (cc_at b y j (by omega)).symm
      · rw [List.getElem?_eq_none (by omega), Array.getElem?_eq_none (by rw [cc_size]; omega)]
/-- rows of three bytes that came in -/
def Sets (W : World) (z : Option Addr × Nat × Nat × (Nat → Nat → Int)) : Prop := z.2.1 ≤ z.2.2.1 ∧ z.2.2.1 ≤ maxLen ∧ (0 < z.2.1 → ∃ ad, z.1 = some ad ∧ ∀ i, i < z.2.1 → ∀ j, j < 3 → W.cell? ((ad.add (i * 3)).add j) = some (.int .u8 (z.2.2.2 i j)) ∧ 0 ≤ z.2.2.2 i j ∧ z.2.2.2 i j < 256)
theorem open_sets {r : Reach} {b0 : Nat} {v : Value} {d : DataW H} {p : List MemPlace} (hv : Value.okWide Tryd.prog w r b0 48 v) (h : DataW.Trod enc Tryd.prog w base spare held 48 v d p) :
    ∃ z : Option Addr × Nat × Nat × (Nat → Nat → Int), v = .slice z.1 z.2.1 z.2.2.1 ∧ Sets w z := by
  have ha : ∃ a n c, v = .slice a n c := by
    simp only [Value.okWide, Cell.okWide, Tryd.underlying48] at hv
    unfold Cell.ok at hv
    rw [Tryd.underlying48] at hv
    cases v with
    | slice a n c => exact ⟨a, n, c, rfl⟩
    | _ => exact absurd hv (by simp)
  obtain ⟨a, len, cap, rfl⟩ := ha
  obtain ⟨fuel, hf⟩ := h
  have ce : Tryd.prog.cellsOf 49 = 3 := by kernel_rfl
  rcases open_slice Tryd.underlying48 hf with ⟨hcs, _⟩ | ⟨x, l, c, m, n, D, Pl, hcs, _, hlc, hcm, hmm, _, hx⟩
  · simp [Value.cells] at hcs
    obtain ⟨rfl, rfl, rfl⟩ := hcs
    exact ⟨(none, 0, 0, fun _ _ => 0), rfl, Nat.le_refl _, Nat.zero_le _, fun h => absurd h (by simp)⟩
  · simp [Value.cells] at hcs
    obtain ⟨rfl, rfl, rfl⟩ := hcs
    have hlm : len ≤ m := by rw [hmm]; split <;> omega
    have each : ∀ i, i < len → ∃ f : Nat → Int, ∀ j, j < 3 → w.cell? ((x.add (i * 3)).add j) = some (.int .u8 (f j)) ∧ 0 ≤ f j ∧ f j < 256 := by
      intro i hi
      obtain ⟨cs', h1, h2⟩ := hx i (by omega)
      rw [ce] at h1
      obtain ⟨_, hlen, hcell⟩ := World.cells?_some h1
      obtain ⟨f, hF⟩ := arr_ints Tryd.underlying49 Tryd.underlying5 (by kernel_rfl) h2
      refine ⟨f, fun j hj => ⟨?_, wf_u8 (hF j hj).2⟩⟩
      rw [hcell j hj]
      exact (hF j hj).1
    obtain ⟨F, hF⟩ := choose_lt (α := Nat → Int) each
    exact ⟨(some x, len, cap, F), rfl, hlc, hcm, fun _ => ⟨x, rfl, hF⟩⟩
end Go.Proofs.YtpeccbdobdnpiaaDoor.AArg
