/- The document's sets: rows of 256 answers. -/
import Derived.Test.YtdociniomegpnaaDoorCPlain
import Derived.Laws.Rows
import Derived.Laws.Tables
namespace Go.Proofs.YtdociniomegpnaaDoor.CArr
open Go.RowKit CMem CBits CSet CMake COps Go.Proofs.YtdociniomegpnaaDoorW.PrintWords Go.Proofs.YtdociniomegpnaaDoorW.PrintLast Go.Proofs.YtdociniomegpnaaDoorW.PrintMore
set_option linter.unusedVariables false
set_option linter.unusedSimpArgs false
set_option maxRecDepth 100000
/-- 256 answers -/
def cb (f : Nat → Bool) : Array Value := Array.ofFn (n := 256) fun i => .bool (f i)
theorem cb_size (f : Nat → Bool) : (cb f).size = 256 := by unfold cb; exact Array.size_ofFn
theorem cb_at (f : Nat → Bool) (i : Nat) (h : i < 256) : (cb f)[i]? = some (.bool (f i)) := by
  unfold cb
  rw [Array.getElem?_ofFn, dif_pos h]
theorem cb_ext {f g : Nat → Bool} (h : ∀ i, i < 256 → f i = g i) : cb f = cb g := by
  apply Array.ext_getElem?
  intro i
  by_cases hi : i < 256
  · rw [cb_at _ _ hi, cb_at _ _ hi, h i hi]
  · rw [Array.getElem?_eq_none (by rw [cb_size]; omega), Array.getElem?_eq_none (by rw [cb_size]; omega)]
theorem cb_set (f : Nat → Bool) (i : Nat) (b : Bool) (h : i < 256) : (cb f).setIfInBounds i (.bool b) = cb (fun j => if j = i then b else f j) := by
  apply Array.ext_getElem?
  intro j
  rw [Array.getElem?_setIfInBounds]
  by_cases hj : j < 256
  · rw [cb_at _ _ hj, cb_at _ _ hj, cb_size]
    by_cases e : i = j
    · subst e; rw [if_pos rfl, if_pos h, if_pos rfl]
    · rw [if_neg e, if_neg (fun h => e h.symm)]
  · rw [Array.getElem?_eq_none (show (cb _).size ≤ j by rw [cb_size]; omega), Array.getElem?_eq_none (show (cb _).size ≤ j by rw [cb_size]; omega), if_neg (by omega)]
theorem cb_one (f : Nat → Bool) : (cb f).all (·.oneCell') = true := by
  rw [Array.all_eq_true]
  intro i hi
  have := cb_at f i (by rw [cb_size] at hi; exact hi)
  rw [Array.getElem?_eq_getElem hi] at this
  rw [Option.some.inj this]
  rfl
theorem load_row {w : World} {g : Nat} {f : Nat → Bool} {t : TypeId} {fr : Nat × Nat} (h : w.heap[g]? = some (.cells (cb f) t fr)) :
    (loadVar 28 ⟨g, 0, none⟩).run Tryd.prog w = .ok (.agg (cb f)) w :=
  run_loadVar_row w g t _ (cb f) fr _ h Tryd.underlying28 rfl (by rw [cb_size]; kernel_rfl)
theorem store_row {w : World} {g : Nat} (f : Nat → Bool) {o : Nat → Bool} {t : TypeId} (h : w.heap[g]? = some (.cells (cb o) t (0, 0))) :
    (storeCells ⟨g, 0, none⟩ (cb f).toList).run Tryd.prog w = .ok () (w.setRow g (cb f)) := by
  have h1 := run_storeCells_from (P := Tryd.prog) g t (cb f).toList 0 (cb o) w h (by simp [cb_size]) (fun v hv => (Array.all_eq_true_iff_forall_mem.1 (cb_one f)) v (by simpa using hv))
  simpa using h1
theorem setRow_same {w : World} {g : Nat} {cs : Array Value} {t : TypeId} {fr : Nat × Nat} (h : w.heap[g]? = some (.cells cs t fr)) : w.setRow g cs = w := by
  have hv := (Array.getElem?_eq_some_iff.1 h)
  have e : (w.setRow g cs).heap = w.heap := by
    unfold World.setRow
    apply Array.ext
    · simp
    · intro i h1 h2
      simp only [Array.getElem_modify]
      split
      · rename_i hg; subst hg
        rw [hv.2]
      · rfl
  have e2 : w.setRow g cs = { w with heap := (w.setRow g cs).heap } := rfl
  rw [e2, e]
theorem store_same {w : World} {g : Nat} {f : Nat → Bool} {t : TypeId} (h : w.heap[g]? = some (.cells (cb f) t (0, 0))) :
    (storeCells ⟨g, 0, none⟩ (cb f).toList).run Tryd.prog w = .ok () w := by
  rw [store_row f h, setRow_same h]
theorem below_row {B : Nat} {w w' : World} (h : Below B w w') {g : Nat} (hg : B ≤ g) (cs : Array Value) : Below B w (w'.setRow g cs) :=
  h.trans ⟨rfl, rfl, rfl, by simp [World.setRow], fun k hk => setRow_other _ _ _ _ (by omega)⟩
theorem zero_row (w : World) : (zeroValue 28).run Tryd.prog w = .ok (.agg (cb fun _ => false)) w := by kernel_rfl
theorem ret_row (fn : Func) (p : Tmp) (h : fn.results = #[.cell p 28]) (tmps : Array Value) (w : World) (g : Nat) (f : Nat → Bool)
    (hp : tmps.getD p undef = .pointer (some ⟨g, 0, none⟩)) (hg : w.heap[g]? = some (.cells (cb f) 28 (0, 0))) :
    (results fn tmps).run Tryd.prog w = .ok (.agg (cb f)) w :=
  results_cell_row h _ _ g _ (cb f) (0, 0) _ hp hg Tryd.underlying28 rfl (by rw [cb_size]; kernel_rfl)
abbrev zr : Obj := .cells (cb fun _ => false) 28
theorem grow_row (F : Nat → Bool) (k : Nat) (v : Bool) (hv : v = F k) (h : k < 256) : (cb fun i => decide (i < k) && F i).setIfInBounds k (.bool v) = cb fun i => decide (i < k + 1) && F i := by
  subst hv
  rw [cb_set _ _ _ h]
  refine cb_ext fun i _ => ?_
  by_cases e : i = k
  · subst e; simp
  · rw [if_neg e, show decide (i < k + 1) = decide (i < k) by rw [decide_eq_decide]; omega]
theorem grown_row (F : Nat → Bool) : (cb fun i => decide (i < 256) && F i) = cb F := cb_ext fun i hi => by simp [hi]
theorem grow_none (F : Nat → Bool) : (cb fun i => decide (i < 0) && F i) = cb fun _ => false := cb_ext fun i _ => by simp
set_option maxHeartbeats 4000000 in
theorem range_walk (a b : Nat) (ha : a < 256) (hb : b < 256) (F : Nat → Bool) (hF : ∀ i, F i = decide (a ≤ i ∧ i ≤ b)) (w : World) :
    Calls Tryd.prog 32 #[.int .u8 a, .int .u8 b] w fun e w' => e = .returned (.agg (cb F)) ∧ Below w.heap.size w w' := by
  have hz := zero_row
  have hs := cb_size
  have st := store_same (blk2 w zr (cb fun _ => false) 28)
  have BR := Lib.hid (blk_alloc (heap_alloc_new w zr) zr)
  have BS := Lib.hid (blk2 w zr (cb fun _ => false) 28)
  have HB := Lib.hid (below2 w zr zr)
  have HF := Lib.hid hF
  clear hF
  go_enter Tryd.func32, Tryd.ntmps32
  go_wp2
  go_loopw [6] (fun t wr => ∃ k : Nat, k ≤ 256 ∧ t = .int .i64 (k : Nat) ∧ Hid (wr.heap[w.heap.size]? = some zr) ∧ Hid (wr.heap[w.heap.size + 1]? = some (.cells (cb fun i => decide (i < k) && F i) 28 (0, 0))) ∧ Hid (Below w.heap.size w wr)) (fun t _ => 256 - (intOf t).toNat)
  case atStart => exact ⟨0, by omega, rfl, BR, by rw [grow_none]; exact BS, HB⟩
  case round =>
    clear BR BS HB hz hs st
    obtain ⟨k, hk, rfl, BR, HS, HB⟩ := hrel
    by_cases h : k < 256
    · have v1 := blk_cell HS.out k _ (cb_at _ _ h)
      have v2 := blk_free HS.out k
      have hw : ∀ v : Bool, v = F k → Hid ((wr.setCell ⟨w.heap.size + 1, k, none⟩ (.bool v)).heap[w.heap.size + 1]? = some (.cells (cb fun i => decide (i < k + 1) && F i) 28 (0, 0))) := fun v hv => by
        rw [← grow_row F k v hv h]
        exact Lib.hid (set_blk (i := k) HS.out (.bool v))
      have HW := Lib.hid hw
      have HB2 := Lib.hid (fun v => below_set HB.out (Nat.le_succ _) (b := w.heap.size + 1) (i := k) v)
      have BR2 := Lib.hid (fun v => set_other (c := w.heap.size + 1) (i := k) (v := v) BR.out (by omega))
      clear hw
      have wa : wrap64 (a : Int) = a := by unfold wrap64; omega
      have wb : wrap64 (b : Int) = b := by unfold wrap64; omega
      by_cases hA : a ≤ k
      · have q1 : decide ((a : Int) ≤ (k : Int)) = true := by simp; omega
        go_wp2
        go_roundw
        case rel => exact ⟨k + 1, by omega, by simp, Lib.hid (BR2.out _), HW.out _ (by rw [HF.out, decide_eq_decide]; omega), Lib.hid (HB2.out _)⟩
        case measure => simp [intOf]; omega
      · have q1 : decide ((a : Int) ≤ (k : Int)) = false := by simp; omega
        go_wp2
        go_roundw
        case rel => exact ⟨k + 1, by omega, by simp, Lib.hid (BR2.out _), HW.out _ (by rw [HF.out, eq_comm, decide_eq_false_iff_not]; omega), Lib.hid (HB2.out _)⟩
        case measure => simp [intOf]; omega
    · obtain rfl : k = 256 := by omega
      rw [grown_row] at HS
      go_wp2_with (first
        | refine wpList_load_row rfl 28 _ rfl (w.heap.size + 1) rfl _ _ _ _ HS.out Tryd.underlying28 rfl (by rw [cb_size]; kernel_rfl) ?_
        | (refine wpList_store_row rfl 28 _ _ rfl w.heap.size (cb F) rfl rfl _ _ BR.out (by rw [cb_size]; kernel_rfl) (by rw [cb_size, cb_size]) (cb_one F) ?_
           go_step
           go_step
           go_step
           go_step
           refine bodyPost_ret (v := .agg (cb F)) ?_ rfl ⟨rfl, below_row HB.out (Nat.le_refl _) _⟩
           rw [ret_row Tryd.f32 4 (by kernel_rfl) _ _ w.heap.size F ?_ (setRow_heap _ _ _ _ _ _ BR.out)]
           rfl))
theorem range_calls (a b : Nat) (ha : a < 256) (hb : b < 256) (w : World) :
    Calls Tryd.prog 32 #[.int .u8 a, .int .u8 b] w fun e w' => e = .returned (.agg (cb (fun i => decide (a ≤ i ∧ i ≤ b)))) ∧ Below w.heap.size w w' :=
  range_walk a b ha hb _ (fun _ => rfl) w
end Go.Proofs.YtdociniomegpnaaDoor.CArr
