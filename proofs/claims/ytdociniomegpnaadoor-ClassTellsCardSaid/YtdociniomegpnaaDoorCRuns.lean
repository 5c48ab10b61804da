/- Sets: the runs, by the loop. -/
import Derived.Test.YtdociniomegpnaaDoorCRng
namespace Go.Proofs.YtdociniomegpnaaDoor.CRuns
open Go.RowKit CMem CBits CSet CMake COps CRng Go.Proofs.YtdociniomegpnaaDoorW.PrintWords Go.Proofs.YtdociniomegpnaaDoorW.PrintLast Go.Proofs.YtdociniomegpnaaDoorW.PrintMore
set_option linter.unusedVariables false
set_option linter.unusedSimpArgs false

/-- behind the first k bytes: the runs that ended, and where the last one began (or -1) -/
def rst (N : Nat) : Nat → List (Nat × Nat) × Int
  | 0 => ([], -1)
  | k + 1 => if N.testBit k then ((rst N k).1, if (rst N k).2 < 0 then (k : Int) else (rst N k).2) else if (rst N k).2 < 0 then ((rst N k).1, -1) else ((rst N k).1 ++ [((rst N k).2.toNat, k - 1)], -1)
def runs (N : Nat) : List (Nat × Nat) := if (rst N 256).2 < 0 then (rst N 256).1 else (rst N 256).1 ++ [((rst N 256).2.toNat, 255)]
theorem rst_ok (N k : Nat) : -1 ≤ (rst N k).2 ∧ (rst N k).2 < k ∧ (rst N k).1.length ≤ k := by
  induction k with
  | zero => simp [rst]
  | succ k ih =>
    rw [rst]
    split
    · refine ⟨?_, ?_, by simp; omega⟩
      · simp only []; split <;> omega
      · simp only []; split <;> omega
    · split
      · exact ⟨by simp, by simp; omega, by simp; omega⟩
      · exact ⟨by simp, by simp; omega, by simp; omega⟩
set_option maxRecDepth 100000 in
set_option maxHeartbeats 6400000 in
theorem ranges_calls (N : Nat) (w : World) :
    Calls Tryd.prog 17 #[.agg (sc N)] w fun e w' => (∃ v, e = .returned v ∧ w'.ownsRow w.heap.size 53 2 v (runs N).length (prs (runs N))) ∧ Below w.heap.size w w' := by
  have hmf : ∀ (fn : Fn) (first cap : Array Value) (w : World), (Instr.makeFunc fn first cap).run Tryd.prog w = .ok (.func fn first cap) w := fun _ _ _ _ => rfl
  have HH := Lib.hid (fun c (hc : c < 256) W => has_calls N c hc W)
  have HS : RS w.heap.size (((w.alloc (.cells (sc N) 25)).alloc (.cells #[.slice none 0 0] 37)).alloc (.cells #[.int .i64 (-1)] 3)) w.heap.size (w.heap.size + 2) (w.heap.size + 1) N (-1) [] := by
    refine ⟨blk_alloc (blk_alloc (heap_alloc_new w _) _) _, blk3 w _ _ _ _, ⟨.slice none 0 0, blk_alloc (blk2 w _ _ _) _, ⟨rfl, .inl ⟨rfl, rfl⟩⟩, by simp [Value.ownBlock], by simp [Value.ownBlock], by simp [Value.ownBlock]⟩, by omega, by omega, by omega, by omega, by omega, by omega⟩
  have HB := Lib.hid (below3 w (.cells (sc N) 25) (.cells #[.slice none 0 0] 37) (.cells #[.int .i64 (-1)] 3))
  have HS := Lib.hid HS
  have hsc : sc N = #[.int .u64 (wd N 0 : Nat), .int .u64 (wd N 1 : Nat), .int .u64 (wd N 2 : Nat), .int .u64 (wd N 3 : Nat)] := rfl
  have HC := Lib.hid (show ∀ W : World, W.heap[w.heap.size]? = some (.cells (sc N) 25 (0, 0)) → W.heap[w.heap.size]? = some (.cells #[.int .u64 (wd N 0 : Nat), .int .u64 (wd N 1 : Nat), .int .u64 (wd N 2 : Nat), .int .u64 (wd N 3 : Nat)] 25 (0, 0)) from fun W H => H)
  rw [hsc] at HH HS HB ⊢
  clear hsc
  generalize wd N 0 = x0 at *
  generalize wd N 1 = x1 at *
  generalize wd N 2 = x2 at *
  generalize wd N 3 = x3 at *
  go_enter Tryd.func17, Tryd.ntmps17
  go_wp2
  generalize (((w.alloc (.cells #[.int .u64 x0, .int .u64 x1, .int .u64 x2, .int .u64 x3] 25)).alloc (.cells #[.slice none 0 0] 37)).alloc (.cells #[.int .i64 (-1)] 3)) = w3 at *
  rw [show w.heap.size + 1 + 1 = w.heap.size + 2 by omega]
  go_loopw [6, 8] (fun _ t wr => ∃ k : Nat, k ≤ 256 ∧ t = .int .i64 (k : Nat) ∧ Hid (RS w.heap.size wr w.heap.size (w.heap.size + 2) (w.heap.size + 1) N (rst N k).2 (rst N k).1) ∧ Hid (Below w.heap.size w wr)) (fun _ t _ => 256 - (intOf t).toNat)
  case atStart => exact ⟨0, by omega, rfl, HS, HB⟩
  case round =>
    clear HS HB
    obtain ⟨k, hk, rfl, HS, HB⟩ := hrel
    have ho := rst_ok N k
    by_cases h : k < 256
    · have hcell := HC.out _ HS.out.box
      have a0 := blk_cell hcell 0 (.int .u64 x0) rfl
      have a1 := blk_cell hcell 1 (.int .u64 x1) rfl
      have a2 := blk_cell hcell 2 (.int .u64 x2) rfl
      have a3 := blk_cell hcell 3 (.int .u64 x3) rfl
      have hstep : rst N (k + 1) = if N.testBit k then ((rst N k).1, if (rst N k).2 < 0 then (k : Int) else (rst N k).2) else if (rst N k).2 < 0 then ((rst N k).1, -1) else ((rst N k).1 ++ [((rst N k).2.toNat, k - 1)], -1) := rfl
      have HX := Lib.hid hstep
      have H1 := Lib.hid (HH.out k h)
      clear hcell hstep
      obtain ⟨L, hL⟩ : ∃ L, (rst N k).1 = L := ⟨_, rfl⟩
      obtain ⟨f, hf⟩ : ∃ f, (rst N k).2 = f := ⟨_, rfl⟩
      rw [hL, hf] at HX HS ho
      clear hL hf
      go_wp2_with fail
      refine (H1.out _).mono ?_
      rintro e w4 ⟨rfl, hb⟩
      have HS := Lib.hid (HS.out.below hb)
      have HB := Lib.hid (below_step HB.out hb)
      clear hb a0 a1 a2 a3
      cases hB : N.testBit k
      · rw [hB] at HX
        by_cases hf : f < 0
        · go_wp2_with fail
          refine (end_no _ _ _ _ _ N f (k : Int) L HS.out hf HB.out.size).mono ?_
          rintro e w5 ⟨rfl, hs, hb⟩
          have HS := Lib.hid hs
          have HB := Lib.hid (HB.out.trans hb)
          clear hs hb
          go_wp2
          go_roundw
          case rel => exact ⟨k + 1, by omega, by simp, by rw [HX.out]; simpa [hf] using HS, HB⟩
          case measure => simp [intOf]; omega
        · obtain ⟨a, rfl⟩ : ∃ a : Nat, f = (a : Int) := ⟨f.toNat, by omega⟩
          go_wp2_with fail
          refine (end_yes _ _ _ _ _ N a k L HS.out (by omega) (by omega) (by omega) (by omega) HB.out.size).mono ?_
          rintro e w5 ⟨rfl, hs, hb⟩
          have HS := Lib.hid hs
          have HB := Lib.hid (HB.out.trans hb)
          clear hs hb
          go_wp2
          go_roundw
          case rel => exact ⟨k + 1, by omega, by simp, (by (have hn : ¬ ((a : Int) < 0) := by omega); rw [HX.out]; simp only [Bool.false_eq_true, if_false, if_neg hn, Int.toNat_natCast]; exact HS), HB⟩
          case measure => simp [intOf]; omega
      · rw [hB] at HX
        have y0 := blk_cell HS.out.fr 0 (.int .i64 f) rfl
        have y1 := blk_free HS.out.fr 0
        by_cases hf : f < 0
        · have HS2 := Lib.hid (HS.out.setF (k : Int))
          have HB2 := Lib.hid (below_set HB.out (b := w.heap.size + 2) (i := 0) (by omega) (.int .i64 (k : Int)))
          go_wp2
          go_roundw
          case rel => exact ⟨k + 1, by omega, by simp, by rw [HX.out]; simpa [hf] using HS2, HB2⟩
          case measure => simp [intOf]; omega
        · go_wp2
          go_roundw
          case rel => exact ⟨k + 1, by omega, by simp, (by (have hn : ¬ (f < 0) := by omega); rw [HX.out]; simp only [if_true, if_neg hn]; exact HS), HB⟩
          case measure => simp [intOf]; omega
    · obtain rfl : k = 256 := by omega
      have hr : runs N = if (rst N 256).2 < 0 then (rst N 256).1 else (rst N 256).1 ++ [((rst N 256).2.toNat, 255)] := rfl
      have HX := Lib.hid hr
      clear hr
      obtain ⟨L, hL⟩ : ∃ L, (rst N 256).1 = L := ⟨_, rfl⟩
      obtain ⟨f, hf⟩ : ∃ f, (rst N 256).2 = f := ⟨_, rfl⟩
      rw [hL, hf] at HX HS ho
      clear hL hf
      by_cases hf : f < 0
      · go_wp2_with fail
        refine (end_no _ _ _ _ _ N f 256 L HS.out hf HB.out.size).mono ?_
        rintro e w5 ⟨rfl, hs, hb⟩
        obtain ⟨v, v1, v2, _⟩ := hs.own
        have u0 := blk_cell v1 0 v rfl
        have HV := Lib.hid v2
        have HB := Lib.hid (HB.out.trans hb)
        clear hs hb v1 v2
        go_wp2
        go_ret
        exact ⟨⟨v, rfl, by rw [HX.out, if_pos hf]; exact HV.out⟩, HB.out⟩
      · obtain ⟨a, rfl⟩ : ∃ a : Nat, f = (a : Int) := ⟨f.toNat, by omega⟩
        go_wp2_with fail
        refine (end_yes _ _ _ _ _ N a 256 L HS.out (by omega) (by omega) (by omega) (by omega) HB.out.size).mono ?_
        rintro e w5 ⟨rfl, hs, hb⟩
        obtain ⟨v, v1, v2, _⟩ := hs.own
        have u0 := blk_cell v1 0 v rfl
        have HV := Lib.hid v2
        have HB := Lib.hid (HB.out.trans hb)
        clear hs hb v1 v2
        go_wp2
        go_ret
        exact ⟨⟨v, rfl, by rw [HX.out, if_neg (by omega), Int.toNat_natCast]; exact HV.out⟩, HB.out⟩
end Go.Proofs.YtdociniomegpnaaDoor.CRuns
