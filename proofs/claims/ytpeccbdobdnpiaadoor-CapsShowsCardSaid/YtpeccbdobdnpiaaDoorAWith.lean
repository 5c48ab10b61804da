/- Groups: With, of the program and of the document. -/
import Derived.Test.YtpeccbdobdnpiaaDoorAGet
namespace Go.Proofs.YtpeccbdobdnpiaaDoor.AWith
open Go.RowKit CMem ACap AGet Go.Proofs.YtpeccbdobdnpiaaDoorW.PrintWords Go.Proofs.YtpeccbdobdnpiaaDoorW.PrintLast Go.Proofs.YtpeccbdobdnpiaaDoorW.PrintMore
set_option linter.unusedVariables false
set_option linter.unusedSimpArgs false
set_option maxRecDepth 100000
/-- one group more: may it be, which, where -/
def wok (g p q : Int) : Bool := decide (1 ≤ g) && (decide (g ≤ 9) && ris p q)
def wb (b : Nat → Bool) (g p q : Int) : Nat → Bool := fun i => wok g p q && (if i = (g - 1).toNat then true else b i)
def wy (y : Nat → Int) (g p q : Int) : Nat → Int := fun i => if wok g p q = true then (if i = (g - 1).toNat * 2 + 1 then q else if i = (g - 1).toNat * 2 then p else y i) else 0
def we (g p q : Int) : Int := if wok g p q = true then 0 else 1
abbrev zc : Array Value := cc (fun _ => false) (fun _ => 0)
theorem zero_c (w : World) : (zeroValue 26).run Tryd.prog w = .ok (.agg zc) w := by kernel_rfl
theorem zero_r (w : World) : (zeroValue 28).run Tryd.prog w = .ok (.agg zc) w := by kernel_rfl
theorem wb_no {b : Nat → Bool} {y : Nat → Int} {g p q : Int} (h : wok g p q = false) : cc (wb b g p q) (wy y g p q) = zc := by
  unfold wb wy
  rw [h]
  rfl
theorem setRow_same {w : World} {g : Nat} {cs : Array Value} {t : TypeId} {fr : Nat × Nat} (h : w.heap[g]? = some (.cells cs t fr)) : w.setRow g cs = w := by
  have hv := (Array.getElem?_eq_some_iff.1 h)
  have e : (w.setRow g cs).heap = w.heap := by
    unfold World.setRow
    apply Array.ext
    · simp
    · intro i h1 h2
      simp only [Array.getElem_modify]
      split
      · rename_i hg; subst hg
        rw [hv.2]
      · rfl
  have e2 : w.setRow g cs = { w with heap := (w.setRow g cs).heap } := rfl
  rw [e2, e]
theorem store_row {w : World} {g : Nat} (b : Nat → Bool) (y : Nat → Int) {b' : Nat → Bool} {y' : Nat → Int} {t : TypeId} (h : w.heap[g]? = some (.cells (cc b' y') t (0, 0))) :
    (storeCells ⟨g, 0, none⟩ (cc b y).toList).run Tryd.prog w = .ok () (w.setRow g (cc b y)) := by
  have h1 := run_storeCells_from (P := Tryd.prog) g t (cc b y).toList 0 (cc b' y') w h (by simp [cc_size]) (fun v hv => (Array.all_eq_true_iff_forall_mem.1 (cc_one b y)) v (by simpa using hv))
  simpa using h1
theorem store_same {w : World} {g : Nat} {b : Nat → Bool} {y : Nat → Int} {t : TypeId} (h : w.heap[g]? = some (.cells (cc b y) t (0, 0))) :
    (storeCells ⟨g, 0, none⟩ (cc b y).toList).run Tryd.prog w = .ok () w := by
  rw [store_row b y h, setRow_same h]
theorem below_row {B : Nat} {w w' : World} (h : Below B w w') {g : Nat} (hg : B ≤ g) (cs : Array Value) : Below B w (w'.setRow g cs) :=
  h.trans ⟨rfl, rfl, rfl, by simp [World.setRow], fun k hk => setRow_other _ _ _ _ (by omega)⟩
theorem wok_ge {g p q : Int} (h : wok g p q = true) : ∃ k : Nat, k < 9 ∧ g = (k : Int) + 1 ∧ ris p q = true := by
  unfold wok at h
  simp only [Bool.and_eq_true, decide_eq_true_eq] at h
  exact ⟨(g - 1).toNat, by omega, by omega, h.2.2⟩
theorem wok_of {k : Nat} (hk : k < 9) (p q : Int) : wok ((k : Int) + 1) p q = ris p q := by
  unfold wok
  rw [decide_eq_true (by omega), decide_eq_true (by omega)]
  rfl
theorem three_sets (b : Nat → Bool) (y : Nat → Int) (k : Nat) (hk : k < 9) (p q : Int) (h : ris p q = true) :
    (((cc b y).setIfInBounds k (.bool true)).setIfInBounds (9 + k * 2) (.int .i64 p)).setIfInBounds (9 + k * 2 + 1) (.int .i64 q) = cc (wb b ((k : Int) + 1) p q) (wy y ((k : Int) + 1) p q) := by
  rw [cc_set_is _ _ _ _ hk, cc_set_at _ _ _ _ (by omega), show 9 + k * 2 + 1 = 9 + (k * 2 + 1) by omega, cc_set_at _ _ _ _ (by omega)]
  have hw : wok ((k : Int) + 1) p q = true := by rw [wok_of hk, h]
  have hn : ((k : Int) + 1 - 1).toNat = k := by omega
  refine cc_ext (fun i _ => ?_) (fun i _ => ?_)
  · simp only [wb, hw, hn, Bool.true_and]
  · simp only [wy, hw, hn, if_true]
theorem stores {b B : Nat → Bool} {y Y : Nat → Int} {k : Nat} (hk : k < 9) {p q : Int} (H3 : (((cc b y).setIfInBounds k (.bool true)).setIfInBounds (9 + k * 2) (.int .i64 p)).setIfInBounds (9 + k * 2 + 1) (.int .i64 q) = cc B Y)
    {W : World} {P Z : Nat} {T U : TypeId} (hP : W.heap[P]? = some (.cells (cc b y) T (0, 0))) (hZ : W.heap[Z]? = some (.cells zc U (0, 0))) (hn : Z ≠ P) :
    W.cell? ⟨P, k, none⟩ = some (.bool (b k)) ∧ W.frozen? ⟨P, k, none⟩ = false ∧
    (W.setCell ⟨P, k, none⟩ (.bool true)).cell? ⟨P, 9 + k * 2, none⟩ = some (.int .i64 (y (k * 2))) ∧ (W.setCell ⟨P, k, none⟩ (.bool true)).frozen? ⟨P, 9 + k * 2, none⟩ = false ∧
    ((W.setCell ⟨P, k, none⟩ (.bool true)).setCell ⟨P, 9 + k * 2, none⟩ (.int .i64 p)).cell? ⟨P, 9 + k * 2 + 1, none⟩ = some (.int .i64 (y (k * 2 + 1))) ∧ ((W.setCell ⟨P, k, none⟩ (.bool true)).setCell ⟨P, 9 + k * 2, none⟩ (.int .i64 p)).frozen? ⟨P, 9 + k * 2 + 1, none⟩ = false ∧
    (loadCells ⟨P, 0, none⟩ 27).run Tryd.prog (((W.setCell ⟨P, k, none⟩ (.bool true)).setCell ⟨P, 9 + k * 2, none⟩ (.int .i64 p)).setCell ⟨P, 9 + k * 2 + 1, none⟩ (.int .i64 q)) = .ok (cc B Y) (((W.setCell ⟨P, k, none⟩ (.bool true)).setCell ⟨P, 9 + k * 2, none⟩ (.int .i64 p)).setCell ⟨P, 9 + k * 2 + 1, none⟩ (.int .i64 q)) ∧
    (storeCells ⟨Z, 0, none⟩ (cc B Y).toList).run Tryd.prog (((W.setCell ⟨P, k, none⟩ (.bool true)).setCell ⟨P, 9 + k * 2, none⟩ (.int .i64 p)).setCell ⟨P, 9 + k * 2 + 1, none⟩ (.int .i64 q)) = .ok () ((((W.setCell ⟨P, k, none⟩ (.bool true)).setCell ⟨P, 9 + k * 2, none⟩ (.int .i64 p)).setCell ⟨P, 9 + k * 2 + 1, none⟩ (.int .i64 q)).setRow Z (cc B Y)) ∧
    ((((W.setCell ⟨P, k, none⟩ (.bool true)).setCell ⟨P, 9 + k * 2, none⟩ (.int .i64 p)).setCell ⟨P, 9 + k * 2 + 1, none⟩ (.int .i64 q)).setRow Z (cc B Y)).heap[Z]? = some (.cells (cc B Y) U (0, 0)) := by
  have S1 := set_blk (i := k) hP (.bool true)
  have S2 := set_blk (i := 9 + k * 2) S1 (.int .i64 p)
  have S3 := set_blk (i := 9 + k * 2 + 1) S2 (.int .i64 q)
  have Z3 := set_other (i := 9 + k * 2 + 1) (v := .int .i64 q) (set_other (i := 9 + k * 2) (v := .int .i64 p) (set_other (i := k) (v := .bool true) hZ hn) hn) hn
  rw [H3] at S3
  refine ⟨blk_cell hP k _ (cc_is b y k hk), blk_free hP k, blk_cell S1 _ _ ?_, blk_free S1 _, blk_cell S2 _ _ ?_, blk_free S2 _, load27 S3, store_row _ _ Z3, setRow_heap _ _ _ _ _ _ Z3⟩
  · rw [cc_set_is _ _ _ _ hk]; exact cc_at _ _ _ (by omega)
  · rw [cc_set_is _ _ _ _ hk, cc_set_at _ _ _ _ (by omega), show 9 + k * 2 + 1 = 9 + (k * 2 + 1) by omega, cc_at _ _ _ (by omega), if_neg (by omega)]
theorem with_ret (tmps : Array Value) (w : World) (g : Nat) (b : Nat → Bool) (y : Nat → Int) (hp : tmps.getD 8 undef = .pointer (some ⟨g, 0, none⟩)) (hg : w.heap[g]? = some (.cells (cc b y) 26 (0, 0))) :
    (results Tryd.f9 tmps).run Tryd.prog w = .ok (.tuple #[.agg (cc b y), tmps.getD 9 undef]) w :=
  results_ct (by kernel_rfl) tmps w g _ (cc b y) (0, 0) _ hp hg Tryd.underlying26 rfl (by rw [cc_size]; kernel_rfl)
set_option maxHeartbeats 3200000 in
attribute [-go_sem] Go.loadCells in
theorem with_calls (b : Nat → Bool) (y : Nat → Int) (g p q : Int) (w : World) :
    Calls Tryd.prog 9 #[.agg (cc b y), .int .i64 g, .int .i64 p, .int .i64 q] w fun e w' => e = .returned (.tuple #[.agg (cc (wb b g p q) (wy y g p q)), .int .i64 (we g p q)]) ∧ Below w.heap.size w w' := by
  have hs := cc_size
  have hz := zero_c
  have HB := Lib.hid (below2 w (.cells (cc b y) 26) (.cells zc 26))
  have BX := Lib.hid (blk_alloc (heap_alloc_new w (.cells (cc b y) 26)) (.cells zc 26))
  have BZ := Lib.hid (blk2 w (.cells (cc b y) 26) zc 26)
  have st := store_same BZ.out
  by_cases h1 : g < 1
  · have hw : wok g p q = false := by unfold wok; rw [decide_eq_false (by omega)]; rfl
    rw [wb_no hw, show we g p q = 1 by unfold we; rw [hw]; rfl]
    go_enter Tryd.func9, Tryd.ntmps9
    go_wp2
    refine bodyPost_ret (v := .tuple #[.agg zc, .int .i64 1]) ?_ rfl ⟨rfl, HB.out⟩
    rw [with_ret _ _ (w.heap.size + 1) (fun _ => false) (fun _ => 0) (by rfl) BZ.out]
    rfl
  by_cases h2 : 9 < g
  · have hw : wok g p q = false := by unfold wok; rw [show decide (g ≤ 9) = false from decide_eq_false (by omega)]; simp
    rw [wb_no hw, show we g p q = 1 by unfold we; rw [hw]; rfl]
    go_enter Tryd.func9, Tryd.ntmps9
    go_wp2
    refine bodyPost_ret (v := .tuple #[.agg zc, .int .i64 1]) ?_ rfl ⟨rfl, HB.out⟩
    rw [with_ret _ _ (w.heap.size + 1) (fun _ => false) (fun _ => 0) (by rfl) BZ.out]
    rfl
  obtain ⟨k, hk⟩ : ∃ k : Nat, g = (k : Int) + 1 := ⟨(g - 1).toNat, by omega⟩
  have hk9 : k < 9 := by omega
  subst hk
  have KR := Lib.hid (rises_calls p q)
  have hw0 := wok_of hk9 p q
  cases hr : ris p q
  · rw [hr] at hw0 KR
    rw [wb_no hw0, show we ((k : Int) + 1) p q = 1 by unfold we; rw [hw0]; rfl]
    clear st hw0 hr
    have hw2 : ∀ w2 : World, w2.heap[w.heap.size + 1]? = some (.cells zc 26 (0, 0)) → (storeCells ⟨w.heap.size + 1, 0, none⟩ zc.toList).run Tryd.prog w2 = .ok () w2 := fun w2 h => store_same h
    go_enter Tryd.func9, Tryd.ntmps9
    go_wp2_with (go_at_call 20; (with_reducible refine (KR.out _).mono ?_); (rintro e w2 ⟨rfl, hb⟩); (have BZ2 := below_blk hb BZ.out); (have HB2 := Lib.hid (below_step HB.out hb)); (have st2 := store_same BZ2); (have BZ3 := Lib.hid BZ2); clear hb hw2 BZ2)
    refine bodyPost_ret (v := .tuple #[.agg zc, .int .i64 1]) ?_ rfl ⟨rfl, HB2.out⟩
    rw [with_ret _ _ (w.heap.size + 1) (fun _ => false) (fun _ => 0) (by rfl) BZ3.out]
    rfl
  · rw [hr] at hw0 KR
    have H3 := three_sets b y k hk9 p q hr
    rw [show we ((k : Int) + 1) p q = 0 by unfold we; rw [hw0]; rfl]
    clear st hw0 hr
    have hx : IntKind.i64.wrap (k : Int) = (k : Int) := by simp [IntKind.wrap, IntKind.signed, IntKind.bits]; omega
    have hx1 : wrap64 ((k : Int) + 1 - 1) = (k : Int) := by unfold wrap64; omega
    have hk1 : (k : Int) < 9 := by omega
    generalize hB : wb b ((k : Int) + 1) p q = B at *
    generalize hY : wy y ((k : Int) + 1) p q = Y at *
    clear hB hY
    go_enter Tryd.func9, Tryd.ntmps9
    go_wp2_with (go_at_call 20; (with_reducible refine (KR.out _).mono ?_); (rintro e w2 ⟨rfl, hb⟩); (have BZ2 := Lib.hid (below_blk hb BZ.out)); (have BX2 := Lib.hid (below_blk hb BX.out)); (have HB2 := Lib.hid (below_step HB.out hb)); (obtain ⟨c0, f0, c1, f1, c2, f2, l3, s3, z3⟩ := stores hk9 H3 BX2.out BZ2.out (by omega)); (have Z3 := Lib.hid z3); clear hb H3 z3)
    refine bodyPost_ret (v := .tuple #[.agg (cc B Y), .int .i64 0]) ?_ rfl ⟨rfl, below_row (below_set (below_set (below_set HB2.out (Nat.le_refl _) _) (Nat.le_refl _) _) (Nat.le_refl _) _) (by omega) _⟩
    rw [with_ret _ _ (w.heap.size + 1) B Y (by rfl) Z3.out]
    rfl
theorem rwith_ret (tmps : Array Value) (w : World) (g : Nat) (b : Nat → Bool) (y : Nat → Int) (hp : tmps.getD 8 undef = .pointer (some ⟨g, 0, none⟩)) (hg : w.heap[g]? = some (.cells (cc b y) 28 (0, 0))) :
    (results Tryd.f10 tmps).run Tryd.prog w = .ok (.tuple #[.agg (cc b y), tmps.getD 9 undef]) w :=
  results_ct (by kernel_rfl) tmps w g _ (cc b y) (0, 0) _ hp hg Tryd.underlying28 rfl (by rw [cc_size]; kernel_rfl)
set_option maxHeartbeats 3200000 in
attribute [-go_sem] Go.loadCells in
theorem rwith_calls (b : Nat → Bool) (y : Nat → Int) (g p q : Int) (w : World) :
    Calls Tryd.prog 10 #[.agg (cc b y), .int .i64 g, .int .i64 p, .int .i64 q] w fun e w' => e = .returned (.tuple #[.agg (cc (wb b g p q) (wy y g p q)), .int .i64 (we g p q)]) ∧ Below w.heap.size w w' := by
  have hs := cc_size
  have hz := zero_r
  have HB := Lib.hid (below2 w (.cells (cc b y) 28) (.cells zc 28))
  have BX := Lib.hid (blk_alloc (heap_alloc_new w (.cells (cc b y) 28)) (.cells zc 28))
  have BZ := Lib.hid (blk2 w (.cells (cc b y) 28) zc 28)
  have st := store_same BZ.out
  by_cases h1 : g < 1
  · have hw : wok g p q = false := by unfold wok; rw [decide_eq_false (by omega)]; rfl
    rw [wb_no hw, show we g p q = 1 by unfold we; rw [hw]; rfl]
    go_enter Tryd.func10, Tryd.ntmps10
    go_wp2
    refine bodyPost_ret (v := .tuple #[.agg zc, .int .i64 1]) ?_ rfl ⟨rfl, HB.out⟩
    rw [rwith_ret _ _ (w.heap.size + 1) (fun _ => false) (fun _ => 0) (by rfl) BZ.out]
    rfl
  by_cases h2 : 9 < g
  · have hw : wok g p q = false := by unfold wok; rw [show decide (g ≤ 9) = false from decide_eq_false (by omega)]; simp
    rw [wb_no hw, show we g p q = 1 by unfold we; rw [hw]; rfl]
    go_enter Tryd.func10, Tryd.ntmps10
    go_wp2
    refine bodyPost_ret (v := .tuple #[.agg zc, .int .i64 1]) ?_ rfl ⟨rfl, HB.out⟩
    rw [rwith_ret _ _ (w.heap.size + 1) (fun _ => false) (fun _ => 0) (by rfl) BZ.out]
    rfl
  obtain ⟨k, hk⟩ : ∃ k : Nat, g = (k : Int) + 1 := ⟨(g - 1).toNat, by omega⟩
  have hk9 : k < 9 := by omega
  subst hk
  have KR := Lib.hid (may_calls p q)
  have hw0 := wok_of hk9 p q
  cases hr : ris p q
  · rw [hr] at hw0 KR
    rw [wb_no hw0, show we ((k : Int) + 1) p q = 1 by unfold we; rw [hw0]; rfl]
    clear st hw0 hr
    have hw2 : ∀ w2 : World, w2.heap[w.heap.size + 1]? = some (.cells zc 28 (0, 0)) → (storeCells ⟨w.heap.size + 1, 0, none⟩ zc.toList).run Tryd.prog w2 = .ok () w2 := fun w2 h => store_same h
    go_enter Tryd.func10, Tryd.ntmps10
    go_wp2_with (go_at_call 21; (with_reducible refine (KR.out _).mono ?_); (rintro e w2 ⟨rfl, hb⟩); (have BZ2 := below_blk hb BZ.out); (have HB2 := Lib.hid (below_step HB.out hb)); (have st2 := store_same BZ2); (have BZ3 := Lib.hid BZ2); clear hb hw2 BZ2)
    refine bodyPost_ret (v := .tuple #[.agg zc, .int .i64 1]) ?_ rfl ⟨rfl, HB2.out⟩
    rw [rwith_ret _ _ (w.heap.size + 1) (fun _ => false) (fun _ => 0) (by rfl) BZ3.out]
    rfl
  · rw [hr] at hw0 KR
    have H3 := three_sets b y k hk9 p q hr
    rw [show we ((k : Int) + 1) p q = 0 by unfold we; rw [hw0]; rfl]
    clear st hw0 hr
    have hx : IntKind.i64.wrap (k : Int) = (k : Int) := by simp [IntKind.wrap, IntKind.signed, IntKind.bits]; omega
    have hx1 : wrap64 ((k : Int) + 1 - 1) = (k : Int) := by unfold wrap64; omega
    have hk1 : (k : Int) < 9 := by omega
    generalize hB : wb b ((k : Int) + 1) p q = B at *
    generalize hY : wy y ((k : Int) + 1) p q = Y at *
    clear hB hY
    go_enter Tryd.func10, Tryd.ntmps10
    go_wp2_with (go_at_call 21; (with_reducible refine (KR.out _).mono ?_); (rintro e w2 ⟨rfl, hb⟩); (have BZ2 := Lib.hid (below_blk hb BZ.out)); (have BX2 := Lib.hid (below_blk hb BX.out)); (have HB2 := Lib.hid (below_step HB.out hb)); (obtain ⟨c0, f0, c1, f1, c2, f2, l3, s3, z3⟩ := stores hk9 H3 BX2.out BZ2.out (by omega)); (have Z3 := Lib.hid z3); clear hb H3 z3)
    refine bodyPost_ret (v := .tuple #[.agg (cc B Y), .int .i64 0]) ?_ rfl ⟨rfl, below_row (below_set (below_set (below_set HB2.out (Nat.le_refl _) _) (Nat.le_refl _) _) (Nat.le_refl _) _) (by omega) _⟩
    rw [rwith_ret _ _ (w.heap.size + 1) B Y (by rfl) Z3.out]
    rfl
end Go.Proofs.YtpeccbdobdnpiaaDoor.AWith
