/- FrameUnlike: its walk. -/
import Derived.Test.YtajflmpdpggcgaaFArr
import Derived.Test.YtajflmpdpggcgaaFCases
namespace Go.Proofs.Ytajflmpdpggcgaa.LFrameUnlike
open Go.RowKit FMath FKey FRep FGet FNew FSat FArr Go.Proofs.YtajflmpdpggcgaaW.PrintWords Go.Proofs.YtajflmpdpggcgaaW.PrintLast Go.Proofs.YtajflmpdpggcgaaW.PrintMore
set_option linter.unusedVariables false
set_option linter.unusedSimpArgs false

theorem put_first : put 10 [] ⟨1, 999, 0, 0, 0⟩ = (1, 0, [⟨1, 999, 0, 0, 0⟩]) := by decide
theorem put_a (n t f : Int) (h0 : 0 ≤ n) (h1 : 0 ≤ t) (h2 : 0 ≤ f) : put 10 [⟨1, 999, 0, 0, 0⟩] ⟨2, n, t, f, 0⟩ = (2, 0, [⟨1, 999, 0, 0, 0⟩, ⟨2, n, t, f, 0⟩]) := by
  unfold put bad
  rw [if_neg (by simp; omega), if_neg (by simp), if_neg (by simp)]
  rfl
theorem put_b (n t f : Int) (b : Fr) (hk : 1 ≤ b.k ∧ b.k ≤ 3) (hn : 0 ≤ b.n) (ht : 0 ≤ b.t) (hf : 0 ≤ b.f) (hx : 0 ≤ b.x ∧ b.x ≤ 1) (h1 : b ≠ ⟨1, 999, 0, 0, 0⟩) (h2 : b ≠ ⟨2, n, t, f, 0⟩) :
    put 10 [⟨1, 999, 0, 0, 0⟩, ⟨2, n, t, f, 0⟩] b = (3, 0, [⟨1, 999, 0, 0, 0⟩, ⟨2, n, t, f, 0⟩, b]) := by
  unfold put bad
  rw [if_neg (by simp; omega), if_neg (by simp [h1, h2]), if_neg (by simp)]
  rfl
theorem put_c (n t f : Int) (b : Fr) (h0 : 0 ≤ n) (h1 : 0 ≤ t) (h2 : 0 ≤ f) : put 10 [⟨1, 999, 0, 0, 0⟩, ⟨2, n, t, f, 0⟩, b] ⟨2, n, t, f, 0⟩ = (2, 0, [⟨1, 999, 0, 0, 0⟩, ⟨2, n, t, f, 0⟩, b]) := by
  unfold put bad
  rw [if_neg (by simp; omega), if_pos (by simp)]
  have : List.idxOf (⟨2, n, t, f, 0⟩ : Fr) [⟨1, 999, 0, 0, 0⟩, ⟨2, n, t, f, 0⟩, b] = 1 := by
    have h : ((⟨1, 999, 0, 0, 0⟩ : Fr) == ⟨2, n, t, f, 0⟩) = false := by simp
    simp [List.idxOf_cons, h]
  rw [this]
  rfl
theorem prep {B : Nat} {w : World} {s qa : Nat} {T : List Fr} {most : Int} {o : Obj} (H : SAt B w s T most) (hB : B ≤ w.heap.size) (ha : w.heap[qa]? = some o) (a b : Fr) :
    ∃ w', w' = (w.alloc (.cells #[.int .i64 a.k, .int .i64 a.n, .int .i64 a.t, .int .i64 a.f, .int .i64 a.x] 33)).alloc (.cells #[.int .i64 b.k, .int .i64 b.n, .int .i64 b.t, .int .i64 b.f, .int .i64 b.x] 33) ∧
    SOff [w.heap.size, w.heap.size + 1] B w' s T most ∧ Below B w w' ∧ w'.heap[w.heap.size]? = some (.cells #[.int .i64 a.k, .int .i64 a.n, .int .i64 a.t, .int .i64 a.f, .int .i64 a.x] 33 (0, 0)) ∧
    w'.heap[w.heap.size + 1]? = some (.cells #[.int .i64 b.k, .int .i64 b.n, .int .i64 b.t, .int .i64 b.f, .int .i64 b.x] 33 (0, 0)) := by
  have hb : ∀ C, C ≤ w.heap.size → Below C w ((w.alloc (.cells #[.int .i64 a.k, .int .i64 a.n, .int .i64 a.t, .int .i64 a.f, .int .i64 a.x] 33)).alloc (.cells #[.int .i64 b.k, .int .i64 b.n, .int .i64 b.t, .int .i64 b.f, .int .i64 b.x] 33)) := fun C hC => ((Below.refl C w).alloc hC _).alloc (by simp; omega) _
  refine ⟨_, rfl, SAt.off H (hb _ (Nat.le_refl _)) _ ?_, hb B hB, blk_alloc (heap_alloc_new w _) _, ?_⟩
  · intro x hx
    simp at hx
    rcases hx with rfl | rfl <;> simp <;> omega
  · have := heap_alloc_new (w.alloc (.cells #[.int .i64 a.k, .int .i64 a.n, .int .i64 a.t, .int .i64 a.f, .int .i64 a.x] 33)) (.cells #[.int .i64 b.k, .int .i64 b.n, .int .i64 b.t, .int .i64 b.f, .int .i64 b.x] 33)
    simpa using this
theorem last_len (a b c : Fr) : (([a, b, c].length : Nat) : Int) = 3 := rfl
set_option maxRecDepth 100000 in
set_option maxHeartbeats 6400000 in
theorem walk (a0 a1 a2 a3 wh : Int) (w : World) (h0 : 0 ≤ a0 ∧ a0 ≤ 255) (h1 : 0 ≤ a1 ∧ a1 ≤ 255) (h2 : 0 ≤ a2 ∧ a2 ≤ 255) (h3 : 0 ≤ a3 ∧ a3 ≤ 255) (hw : 0 ≤ wh ∧ wh ≤ 255) :
    Calls Try.prog 7 #[.agg #[.int .u8 a0, .int .u8 a1, .int .u8 a2, .int .u8 a3], .int .u8 wh] w fun e w' => e = .returned (.bool true) ∧ Below w.heap.size w w' := by
  have BA := Lib.hid (heap_alloc_new w (.cells #[.int .u8 a0, .int .u8 a1, .int .u8 a2, .int .u8 a3] 52))
  have HBa := Lib.hid ((Below.refl w.heap.size w).alloc (Nat.le_refl _) (.cells #[.int .u8 a0, .int .u8 a1, .int .u8 a2, .int .u8 a3] 52))
  go_enter Try.func7, Try.ntmps7
  go_wp2_with fail
  generalize (w.alloc (.cells #[.int .u8 a0, .int .u8 a1, .int .u8 a2, .int .u8 a3] 52)) = wa at *
  have hqa := lt_of_blk BA.out
  refine (snew (B := wa.heap.size) 10 (by omega) (by omega) (Nat.le_refl _)).mono ?_
  rintro e w1 ⟨s, rfl, hs1, hB1⟩
  have HS1 := Lib.hid hs1
  have HB1 := Lib.hid hB1
  clear hs1 hB1
  go_wp2_with fail
  refine (sput HS1.out ⟨1, 999, 0, 0, 0⟩ HB1.out.size).mono ?_
  rintro e w2 ⟨rfl, hs, hb⟩
  rw [put_first] at hs ⊢
  have HS2 := Lib.hid hs
  have HB2 := Lib.hid (HB1.out.trans hb)
  have BA2 := (HB2.out.block _ hqa).trans BA.out
  clear hs hb HS1 HB1 BA
  have HQ := Lib.hid (Lib.hid hqa)
  generalize hqe : w.heap.size = qa at *
  have HQE := Lib.hid hqe
  clear hqe
  have l0 := blk_cell BA2 0 (.int .u8 a0) rfl
  have l1 := blk_cell BA2 1 (.int .u8 a1) rfl
  have l2 := blk_cell BA2 2 (.int .u8 a2) rfl
  have l3 := blk_cell BA2 3 (.int .u8 a3) rfl
  have l3' := blk_cell (blk_alloc (blk_alloc BA2 (.cells #[.int .i64 2, .int .i64 a0, .int .i64 a1, .int .i64 a2, .int .i64 0] 33)) (.cells #[.int .i64 2, .int .i64 a0, .int .i64 a1, .int .i64 a2, .int .i64 0] 33)) 3 (.int .u8 a3) rfl
  go_wp2_with fail
  · -- B 0
    obtain ⟨w4, hw4, hs, hb, fa, fb⟩ := prep HS2.out HB2.out.size BA2 ⟨2, a0, a1, a2, 0⟩ ⟨3, a0, a1, a2, 0⟩
    simp only [] at hw4 fa fb
    rw [← hw4]
    clear hw4 l0 l1 l2 l3 l3'
    have HB4 := Lib.hid (HB2.out.trans hb)
    generalize w2.heap.size = qx at *
    generalize qx + 1 = qy at *
    refine (oput hs ⟨2, a0, a1, a2, 0⟩ HB4.out.size).mono ?_
    rintro e w5 ⟨rfl, hs, hb, hE⟩
    rw [put_a a0 a1 a2 h0.1 h1.1 h2.1] at hs ⊢
    have fa := (hE _ (by simp)).trans fa
    have fb := (hE _ (by simp)).trans fb
    have HB5 := Lib.hid (HB4.out.trans hb)
    clear hE hb HB4 HS2
    have HS := Lib.hid hs
    clear hs
    have y0 := blk_cell fb 0 (.int .i64 3) rfl
    have y1 := blk_cell fb 1 (.int .i64 a0) rfl
    have y2 := blk_cell fb 2 (.int .i64 a1) rfl
    have y3 := blk_cell fb 3 (.int .i64 a2) rfl
    have y4 := blk_cell fb 4 (.int .i64 0) rfl
    go_wp2_with fail
    refine (oput HS.out ⟨3, a0, a1, a2, 0⟩ HB5.out.size).mono ?_
    rintro e w6 ⟨rfl, hs, hb, hE⟩
    rw [put_b a0 a1 a2 ⟨3, a0, a1, a2, 0⟩ (by simp) (by simp only []; omega) (by simp only []; omega) (by simp only []; omega) (by simp) (by simp) (by simp <;> omega)] at hs ⊢
    have fa := (hE _ (by simp)).trans fa
    have HB6 := Lib.hid (HB5.out.trans hb)
    clear hE hb HB5 HS y0 y1 y2 y3 y4
    have HS := Lib.hid hs
    clear hs
    have x0 := blk_cell fa 0 (.int .i64 2) rfl
    have x1 := blk_cell fa 1 (.int .i64 a0) rfl
    have x2 := blk_cell fa 2 (.int .i64 a1) rfl
    have x3 := blk_cell fa 3 (.int .i64 a2) rfl
    have x4 := blk_cell fa 4 (.int .i64 0) rfl
    go_wp2_with fail
    refine (oput HS.out ⟨2, a0, a1, a2, 0⟩ HB6.out.size).mono ?_
    rintro e w7 ⟨rfl, hs, hb, hE⟩
    rw [put_c a0 a1 a2 ⟨3, a0, a1, a2, 0⟩ h0.1 h1.1 h2.1] at hs ⊢
    have HB7 := Lib.hid (HB6.out.trans hb)
    clear hE hb HB6 HS x0 x1 x2 x3 x4
    have HS := Lib.hid hs.sat
    clear hs
    go_wp2_with fail
    refine (slen HS.out).mono ?_
    rintro e w8 ⟨rfl, rfl⟩
    rw [last_len]
    go_wp2_with (go_at_call 18; (with_reducible refine (fixed_calls _).mono ?_); rintro e w9 ⟨rfl, hB9⟩)
    go_ret
    exact ⟨rfl, by rw [HQE.out]; exact HBa.out.trans ((below_step HB7.out hB9).mono (Nat.le_of_lt hqa))⟩
  · -- B 1
    obtain ⟨w4, hw4, hs, hb, fa, fb⟩ := prep HS2.out HB2.out.size BA2 ⟨2, a0, a1, a2, 0⟩ ⟨2, a0 + 1 + a3, a1, a2, 0⟩
    simp only [] at hw4 fa fb
    rw [← hw4]
    clear hw4 l0 l1 l2 l3 l3'
    have HB4 := Lib.hid (HB2.out.trans hb)
    generalize w2.heap.size = qx at *
    generalize qx + 1 = qy at *
    refine (oput hs ⟨2, a0, a1, a2, 0⟩ HB4.out.size).mono ?_
    rintro e w5 ⟨rfl, hs, hb, hE⟩
    rw [put_a a0 a1 a2 h0.1 h1.1 h2.1] at hs ⊢
    have fa := (hE _ (by simp)).trans fa
    have fb := (hE _ (by simp)).trans fb
    have HB5 := Lib.hid (HB4.out.trans hb)
    clear hE hb HB4 HS2
    have HS := Lib.hid hs
    clear hs
    have y0 := blk_cell fb 0 (.int .i64 2) rfl
    have y1 := blk_cell fb 1 (.int .i64 (a0 + 1 + a3)) rfl
    have y2 := blk_cell fb 2 (.int .i64 a1) rfl
    have y3 := blk_cell fb 3 (.int .i64 a2) rfl
    have y4 := blk_cell fb 4 (.int .i64 0) rfl
    go_wp2_with fail
    refine (oput HS.out ⟨2, a0 + 1 + a3, a1, a2, 0⟩ HB5.out.size).mono ?_
    rintro e w6 ⟨rfl, hs, hb, hE⟩
    rw [put_b a0 a1 a2 ⟨2, a0 + 1 + a3, a1, a2, 0⟩ (by simp) (by simp only []; omega) (by simp only []; omega) (by simp only []; omega) (by simp) (by simp) (by simp <;> omega)] at hs ⊢
    have fa := (hE _ (by simp)).trans fa
    have HB6 := Lib.hid (HB5.out.trans hb)
    clear hE hb HB5 HS y0 y1 y2 y3 y4
    have HS := Lib.hid hs
    clear hs
    have x0 := blk_cell fa 0 (.int .i64 2) rfl
    have x1 := blk_cell fa 1 (.int .i64 a0) rfl
    have x2 := blk_cell fa 2 (.int .i64 a1) rfl
    have x3 := blk_cell fa 3 (.int .i64 a2) rfl
    have x4 := blk_cell fa 4 (.int .i64 0) rfl
    go_wp2_with fail
    refine (oput HS.out ⟨2, a0, a1, a2, 0⟩ HB6.out.size).mono ?_
    rintro e w7 ⟨rfl, hs, hb, hE⟩
    rw [put_c a0 a1 a2 ⟨2, a0 + 1 + a3, a1, a2, 0⟩ h0.1 h1.1 h2.1] at hs ⊢
    have HB7 := Lib.hid (HB6.out.trans hb)
    clear hE hb HB6 HS x0 x1 x2 x3 x4
    have HS := Lib.hid hs.sat
    clear hs
    go_wp2_with fail
    refine (slen HS.out).mono ?_
    rintro e w8 ⟨rfl, rfl⟩
    rw [last_len]
    go_wp2_with (go_at_call 18; (with_reducible refine (fixed_calls _).mono ?_); rintro e w9 ⟨rfl, hB9⟩)
    go_ret
    exact ⟨rfl, by rw [HQE.out]; exact HBa.out.trans ((below_step HB7.out hB9).mono (Nat.le_of_lt hqa))⟩
  · -- B 2
    obtain ⟨w4, hw4, hs, hb, fa, fb⟩ := prep HS2.out HB2.out.size BA2 ⟨2, a0, a1, a2, 0⟩ ⟨2, a0, a1 + 1 + a3, a2, 0⟩
    simp only [] at hw4 fa fb
    rw [← hw4]
    clear hw4 l0 l1 l2 l3 l3'
    have HB4 := Lib.hid (HB2.out.trans hb)
    generalize w2.heap.size = qx at *
    generalize qx + 1 = qy at *
    refine (oput hs ⟨2, a0, a1, a2, 0⟩ HB4.out.size).mono ?_
    rintro e w5 ⟨rfl, hs, hb, hE⟩
    rw [put_a a0 a1 a2 h0.1 h1.1 h2.1] at hs ⊢
    have fa := (hE _ (by simp)).trans fa
    have fb := (hE _ (by simp)).trans fb
    have HB5 := Lib.hid (HB4.out.trans hb)
    clear hE hb HB4 HS2
    have HS := Lib.hid hs
    clear hs
    have y0 := blk_cell fb 0 (.int .i64 2) rfl
    have y1 := blk_cell fb 1 (.int .i64 a0) rfl
    have y2 := blk_cell fb 2 (.int .i64 (a1 + 1 + a3)) rfl
    have y3 := blk_cell fb 3 (.int .i64 a2) rfl
    have y4 := blk_cell fb 4 (.int .i64 0) rfl
    go_wp2_with fail
    refine (oput HS.out ⟨2, a0, a1 + 1 + a3, a2, 0⟩ HB5.out.size).mono ?_
    rintro e w6 ⟨rfl, hs, hb, hE⟩
    rw [put_b a0 a1 a2 ⟨2, a0, a1 + 1 + a3, a2, 0⟩ (by simp) (by simp only []; omega) (by simp only []; omega) (by simp only []; omega) (by simp) (by simp) (by simp <;> omega)] at hs ⊢
    have fa := (hE _ (by simp)).trans fa
    have HB6 := Lib.hid (HB5.out.trans hb)
    clear hE hb HB5 HS y0 y1 y2 y3 y4
    have HS := Lib.hid hs
    clear hs
    have x0 := blk_cell fa 0 (.int .i64 2) rfl
    have x1 := blk_cell fa 1 (.int .i64 a0) rfl
    have x2 := blk_cell fa 2 (.int .i64 a1) rfl
    have x3 := blk_cell fa 3 (.int .i64 a2) rfl
    have x4 := blk_cell fa 4 (.int .i64 0) rfl
    go_wp2_with fail
    refine (oput HS.out ⟨2, a0, a1, a2, 0⟩ HB6.out.size).mono ?_
    rintro e w7 ⟨rfl, hs, hb, hE⟩
    rw [put_c a0 a1 a2 ⟨2, a0, a1 + 1 + a3, a2, 0⟩ h0.1 h1.1 h2.1] at hs ⊢
    have HB7 := Lib.hid (HB6.out.trans hb)
    clear hE hb HB6 HS x0 x1 x2 x3 x4
    have HS := Lib.hid hs.sat
    clear hs
    go_wp2_with fail
    refine (slen HS.out).mono ?_
    rintro e w8 ⟨rfl, rfl⟩
    rw [last_len]
    go_wp2_with (go_at_call 18; (with_reducible refine (fixed_calls _).mono ?_); rintro e w9 ⟨rfl, hB9⟩)
    go_ret
    exact ⟨rfl, by rw [HQE.out]; exact HBa.out.trans ((below_step HB7.out hB9).mono (Nat.le_of_lt hqa))⟩
  · -- B 3
    obtain ⟨w4, hw4, hs, hb, fa, fb⟩ := prep HS2.out HB2.out.size BA2 ⟨2, a0, a1, a2, 0⟩ ⟨2, a0, a1, a2 + 1 + a3, 0⟩
    simp only [] at hw4 fa fb
    rw [← hw4]
    clear hw4 l0 l1 l2 l3 l3'
    have HB4 := Lib.hid (HB2.out.trans hb)
    generalize w2.heap.size = qx at *
    generalize qx + 1 = qy at *
    refine (oput hs ⟨2, a0, a1, a2, 0⟩ HB4.out.size).mono ?_
    rintro e w5 ⟨rfl, hs, hb, hE⟩
    rw [put_a a0 a1 a2 h0.1 h1.1 h2.1] at hs ⊢
    have fa := (hE _ (by simp)).trans fa
    have fb := (hE _ (by simp)).trans fb
    have HB5 := Lib.hid (HB4.out.trans hb)
    clear hE hb HB4 HS2
    have HS := Lib.hid hs
    clear hs
    have y0 := blk_cell fb 0 (.int .i64 2) rfl
    have y1 := blk_cell fb 1 (.int .i64 a0) rfl
    have y2 := blk_cell fb 2 (.int .i64 a1) rfl
    have y3 := blk_cell fb 3 (.int .i64 (a2 + 1 + a3)) rfl
    have y4 := blk_cell fb 4 (.int .i64 0) rfl
    go_wp2_with fail
    refine (oput HS.out ⟨2, a0, a1, a2 + 1 + a3, 0⟩ HB5.out.size).mono ?_
    rintro e w6 ⟨rfl, hs, hb, hE⟩
    rw [put_b a0 a1 a2 ⟨2, a0, a1, a2 + 1 + a3, 0⟩ (by simp) (by simp only []; omega) (by simp only []; omega) (by simp only []; omega) (by simp) (by simp) (by simp <;> omega)] at hs ⊢
    have fa := (hE _ (by simp)).trans fa
    have HB6 := Lib.hid (HB5.out.trans hb)
    clear hE hb HB5 HS y0 y1 y2 y3 y4
    have HS := Lib.hid hs
    clear hs
    have x0 := blk_cell fa 0 (.int .i64 2) rfl
    have x1 := blk_cell fa 1 (.int .i64 a0) rfl
    have x2 := blk_cell fa 2 (.int .i64 a1) rfl
    have x3 := blk_cell fa 3 (.int .i64 a2) rfl
    have x4 := blk_cell fa 4 (.int .i64 0) rfl
    go_wp2_with fail
    refine (oput HS.out ⟨2, a0, a1, a2, 0⟩ HB6.out.size).mono ?_
    rintro e w7 ⟨rfl, hs, hb, hE⟩
    rw [put_c a0 a1 a2 ⟨2, a0, a1, a2 + 1 + a3, 0⟩ h0.1 h1.1 h2.1] at hs ⊢
    have HB7 := Lib.hid (HB6.out.trans hb)
    clear hE hb HB6 HS x0 x1 x2 x3 x4
    have HS := Lib.hid hs.sat
    clear hs
    go_wp2_with fail
    refine (slen HS.out).mono ?_
    rintro e w8 ⟨rfl, rfl⟩
    rw [last_len]
    go_wp2_with (go_at_call 18; (with_reducible refine (fixed_calls _).mono ?_); rintro e w9 ⟨rfl, hB9⟩)
    go_ret
    exact ⟨rfl, by rw [HQE.out]; exact HBa.out.trans ((below_step HB7.out hB9).mono (Nat.le_of_lt hqa))⟩
  · -- B 4
    obtain ⟨w4, hw4, hs, hb, fa, fb⟩ := prep HS2.out HB2.out.size BA2 ⟨2, a0, a1, a2, 0⟩ ⟨2, a0, a1, a2, 1⟩
    simp only [] at hw4 fa fb
    rw [← hw4]
    clear hw4 l0 l1 l2 l3 l3'
    have HB4 := Lib.hid (HB2.out.trans hb)
    generalize w2.heap.size = qx at *
    generalize qx + 1 = qy at *
    refine (oput hs ⟨2, a0, a1, a2, 0⟩ HB4.out.size).mono ?_
    rintro e w5 ⟨rfl, hs, hb, hE⟩
    rw [put_a a0 a1 a2 h0.1 h1.1 h2.1] at hs ⊢
    have fa := (hE _ (by simp)).trans fa
    have fb := (hE _ (by simp)).trans fb
    have HB5 := Lib.hid (HB4.out.trans hb)
    clear hE hb HB4 HS2
    have HS := Lib.hid hs
    clear hs
    have y0 := blk_cell fb 0 (.int .i64 2) rfl
    have y1 := blk_cell fb 1 (.int .i64 a0) rfl
    have y2 := blk_cell fb 2 (.int .i64 a1) rfl
    have y3 := blk_cell fb 3 (.int .i64 a2) rfl
    have y4 := blk_cell fb 4 (.int .i64 1) rfl
    go_wp2_with fail
    refine (oput HS.out ⟨2, a0, a1, a2, 1⟩ HB5.out.size).mono ?_
    rintro e w6 ⟨rfl, hs, hb, hE⟩
    rw [put_b a0 a1 a2 ⟨2, a0, a1, a2, 1⟩ (by simp) (by simp only []; omega) (by simp only []; omega) (by simp only []; omega) (by simp) (by simp) (by simp <;> omega)] at hs ⊢
    have fa := (hE _ (by simp)).trans fa
    have HB6 := Lib.hid (HB5.out.trans hb)
    clear hE hb HB5 HS y0 y1 y2 y3 y4
    have HS := Lib.hid hs
    clear hs
    have x0 := blk_cell fa 0 (.int .i64 2) rfl
    have x1 := blk_cell fa 1 (.int .i64 a0) rfl
    have x2 := blk_cell fa 2 (.int .i64 a1) rfl
    have x3 := blk_cell fa 3 (.int .i64 a2) rfl
    have x4 := blk_cell fa 4 (.int .i64 0) rfl
    go_wp2_with fail
    refine (oput HS.out ⟨2, a0, a1, a2, 0⟩ HB6.out.size).mono ?_
    rintro e w7 ⟨rfl, hs, hb, hE⟩
    rw [put_c a0 a1 a2 ⟨2, a0, a1, a2, 1⟩ h0.1 h1.1 h2.1] at hs ⊢
    have HB7 := Lib.hid (HB6.out.trans hb)
    clear hE hb HB6 HS x0 x1 x2 x3 x4
    have HS := Lib.hid hs.sat
    clear hs
    go_wp2_with fail
    refine (slen HS.out).mono ?_
    rintro e w8 ⟨rfl, rfl⟩
    rw [last_len]
    go_wp2_with (go_at_call 18; (with_reducible refine (fixed_calls _).mono ?_); rintro e w9 ⟨rfl, hB9⟩)
    go_ret
    exact ⟨rfl, by rw [HQE.out]; exact HBa.out.trans ((below_step HB7.out hB9).mono (Nat.le_of_lt hqa))⟩
theorem u8_of {a : Int} (h : (Lit.int .u8 a).wf = true) : 0 ≤ a ∧ a ≤ 255 := by
  simp [Lit.wf, IntKind.min, IntKind.max, IntKind.signed, IntKind.bits] at h
  omega
theorem frameUnlike_row (q : Int × Int × Int × Int) (b : Int) (w : World) (hq : (0 ≤ q.1 ∧ q.1 ≤ 255) ∧ (0 ≤ q.2.1 ∧ q.2.1 ≤ 255) ∧ (0 ≤ q.2.2.1 ∧ q.2.2.1 ≤ 255) ∧ (0 ≤ q.2.2.2 ∧ q.2.2.2 ≤ 255)) (hb : (Lit.int .u8 b).wf = true) :
    Calls Try.prog 7 #[.agg #[.int .u8 q.1, .int .u8 q.2.1, .int .u8 q.2.2.1, .int .u8 q.2.2.2], .int .u8 b] w fun e w' => e = .returned (.bool true) ∧ Below w.heap.size w w' :=
  walk _ _ _ _ b w hq.1 hq.2.1 hq.2.2.1 hq.2.2.2 (u8_of hb)
end Go.Proofs.Ytajflmpdpggcgaa.LFrameUnlike
