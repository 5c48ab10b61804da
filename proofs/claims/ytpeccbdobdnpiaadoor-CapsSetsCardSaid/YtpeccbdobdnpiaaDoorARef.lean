/- Groups: as the document has them. -/
import Derived.Test.YtpeccbdobdnpiaaDoorAWith
namespace Go.Proofs.YtpeccbdobdnpiaaDoor.ARef
open Go.RowKit CMem ACap AGet AWith Go.Proofs.YtpeccbdobdnpiaaDoorW.PrintWords Go.Proofs.YtpeccbdobdnpiaaDoorW.PrintLast Go.Proofs.YtpeccbdobdnpiaaDoorW.PrintMore
set_option linter.unusedVariables false
set_option linter.unusedSimpArgs false
set_option maxRecDepth 100000
def yb (y : Nat → Int) : Array Value := #[.int .i64 (y 0), .int .i64 (y 1), .int .i64 (y 2), .int .i64 (y 3), .int .i64 (y 4), .int .i64 (y 5), .int .i64 (y 6), .int .i64 (y 7), .int .i64 (y 8), .int .i64 (y 9), .int .i64 (y 10), .int .i64 (y 11), .int .i64 (y 12), .int .i64 (y 13), .int .i64 (y 14), .int .i64 (y 15), .int .i64 (y 16), .int .i64 (y 17)]
theorem yb_at (y : Nat → Int) (i : Nat) (h : i < 18) : (yb y)[i]? = some (.int .i64 (y i)) := by
  have : i = 0 ∨ i = 1 ∨ i = 2 ∨ i = 3 ∨ i = 4 ∨ i = 5 ∨ i = 6 ∨ i = 7 ∨ i = 8 ∨ i = 9 ∨ i = 10 ∨ i = 11 ∨ i = 12 ∨ i = 13 ∨ i = 14 ∨ i = 15 ∨ i = 16 ∨ i = 17 := by omega
  rcases this with rfl | rfl | rfl | rfl | rfl | rfl | rfl | rfl | rfl | rfl | rfl | rfl | rfl | rfl | rfl | rfl | rfl | rfl <;> rfl
theorem load18 {w : World} {g : Nat} {b : Nat → Bool} {y : Nat → Int} {t : TypeId} {fr : Nat × Nat} (h : w.heap[g]? = some (.cells (cc b y) t fr)) :
    (loadCells ⟨g, 9, none⟩ 18).run Tryd.prog w = .ok (yb y) w := by
  have h1 := run_loadCells_list (P := Tryd.prog) w ⟨g, 9, none⟩ (yb y).toList (fun j v hv => by
      have hadd : (⟨g, 9, none⟩ : Addr).add j = ⟨g, 9 + j, none⟩ := by unfold Addr.add; split <;> simp_all
      rw [hadd, cell_of_row w g (9 + j) (cc b y) t fr h]
      have hj : j < 18 := by
        have := (List.getElem?_eq_some_iff.1 hv).1
        rw [Array.length_toList] at this
        exact this
      rw [cc_at b y j hj, ← yb_at y j hj]
      simpa using hv)
  rw [Array.length_toList, show (yb y).size = 18 from rfl] at h1
  simpa using h1
theorem built_ (b : Nat → Bool) (y : Nat → Int) : Tryd.prog.built 28 [(0, .agg (ib b)), (1, .agg (yb y))] = some (cc b y) := by
  unfold ib yb cc
  generalize b 0 = b0
  generalize b 1 = b1
  generalize b 2 = b2
  generalize b 3 = b3
  generalize b 4 = b4
  generalize b 5 = b5
  generalize b 6 = b6
  generalize b 7 = b7
  generalize b 8 = b8
  kernel_rfl
theorem wpList_build2 {ops : Array Oper} {rest : List Oper} {o : Oper} {a : Act} {w : World} {Q : Exit → Act → World → Prop} (hg : o.guard = none) (t : TypeId) (x y : Operand) (ho : o.op = .build t #[(0, x), (1, y)]) (u v : Value) (hx : a.eval x = u) (hy : a.eval y = v) (cells : Array Value)
    (hb : Tryd.prog.built t [(0, u), (1, v)] = some cells) (h : wpList Tryd.prog ops Q rest (a.put o.dst (.agg cells)) w) : wpList Tryd.prog ops Q (o :: rest) a w := by
  have e : (#[((0 : Nat), x), (1, y)].map fun (i, x) => (i, a.eval x)).toList = [(0, u), (1, v)] := by
    rw [← hx, ← hy]
    simp only [List.map_toArray, List.map_cons, List.map_nil]
  refine wpList_build hg t #[(0, x), (1, y)] ho (by rw [e, hb]; rfl) ?_
  rw [e, hb]
  exact h
theorem ref_ret (tmps : Array Value) (w : World) (g : Nat) (b : Nat → Bool) (y : Nat → Int) (hp : tmps.getD 2 undef = .pointer (some ⟨g, 0, none⟩)) (hg : w.heap[g]? = some (.cells (cc b y) 28 (0, 0))) :
    (results Tryd.f8 tmps).run Tryd.prog w = .ok (.agg (cc b y)) w :=
  results_cell_row (by kernel_rfl) tmps w g _ (cc b y) (0, 0) _ hp hg Tryd.underlying28 rfl (by rw [cc_size]; kernel_rfl)
set_option maxHeartbeats 400000 in
attribute [-go_sem] Go.loadCells in
theorem ref_calls (b : Nat → Bool) (y : Nat → Int) (w : World) :
    Calls Tryd.prog 8 #[.agg (cc b y)] w fun e w' => e = .returned (.agg (cc b y)) ∧ Below w.heap.size w w' := by
  have hs := cc_size
  have hz := zero_r
  have BX := blk_alloc (heap_alloc_new w (.cells (cc b y) 26)) (.cells zc 28)
  have BZ := blk2 w (.cells (cc b y) 26) zc 28
  have l9 := load9 BX
  have l18 := load18 BX
  have st := store_row b y BZ
  have HR : Hid (((((w.alloc (.cells (cc b y) 26)).alloc (.cells zc 28)).setRow (w.heap.size + 1) (cc b y)).heap[w.heap.size + 1]?) = some (.cells (cc b y) 28 (0, 0))) := Lib.hid (setRow_heap _ _ _ _ _ _ BZ)
  have HB := Lib.hid (below2 w (.cells (cc b y) 26) (.cells zc 28))
  clear BX BZ
  go_enter Tryd.func8, Tryd.ntmps8
  go_wp2_with (with_reducible refine wpList_build2 rfl 28 (.tmp 4) (.tmp 6) rfl (.agg (ib b)) (.agg (yb y)) ?_ ?_ (cc b y) (built_ b y) ?_; (· go_simp); (· go_simp); (simp only [Act.put, List.setIfInBounds_toArray, List.set_cons_zero, List.set_cons_succ]))
  refine bodyPost_ret (v := .agg (cc b y)) ?_ rfl ⟨rfl, below_row HB.out (by omega) _⟩
  rw [ref_ret _ _ (w.heap.size + 1) b y (by rfl) HR.out]
end Go.Proofs.YtpeccbdobdnpiaaDoor.ARef
