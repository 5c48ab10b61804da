/- The document's store in memory, and its small functions. -/
import Derived.Test.YtajflmpdpggcgaaFPutAll
namespace Go.Proofs.Ytajflmpdpggcgaa.RRep
open Go.RowKit FMath FKey FRep Go.Proofs.YtajflmpdpggcgaaW.PrintWords Go.Proofs.YtajflmpdpggcgaaW.PrintLast Go.Proofs.YtajflmpdpggcgaaW.PrintMore

structure RHas (w : World) (r bl cl : Nat) (T : List Fr) (most : Int) : Prop where
  blk : w.heap[r]? = some (.cells #[.slice (some ⟨bl, 0, none⟩) (T.length + 1) cl, .int .i64 most] 44 (0, 0))
  rl : w.ownsRow 0 35 5 (.slice (some ⟨bl, 0, none⟩) (T.length + 1) cl) (T.length + 1) (flat T)
  rbl : r ≠ bl
  good : FMath.Good T
  room : (T.length : Int) ≤ most
  most_le : most ≤ 1048576
theorem RHas.turned {F : List Nat} {w w' : World} (h : Turned F w w') {r bl cl : Nat} {T : List Fr} {most : Int} (H : RHas w r bl cl T most) (h0 : r ∉ F) (h1 : bl ∉ F) : RHas w' r bl cl T most :=
  ⟨h.keeps H.blk h0, ownsRow_turned h H.rl h1, H.rbl, H.good, H.room, H.most_le⟩
theorem RHas.lts {w : World} {r bl cl : Nat} {T : List Fr} {most : Int} (H : RHas w r bl cl T most) : r < w.heap.size ∧ bl < w.heap.size := ⟨lt_of_blk H.blk, (H.rl.lt bl rfl).2⟩
theorem RHas.below {w w' : World} (h : Below w.heap.size w w') {r bl cl : Nat} {T : List Fr} {most : Int} (H : RHas w r bl cl T most) : RHas w' r bl cl T most :=
  RHas.turned (F := []) (Turned.of_below h) H (by simp) (by simp)

theorem new_no (w : World) (most : Int) (h : most < 0 ∨ 1048576 < most) :
    Calls Try.prog 9 #[.int .i64 most] w fun e w' => e = .returned (.tuple #[.pointer none, .int .i64 1]) ∧ w' = w := by
  by_cases h0 : most < 0
  all_goals
    go_enter Try.func9, Try.ntmps9
    go_wp2
    go_ret2
    exact ⟨rfl, rfl⟩
theorem new_has (w : World) (most : Int) (h0 : 0 ≤ most) (h1 : most ≤ 1048576) :
    RHas ((w.alloc (.cells #[.int .i64 0, .int .i64 0, .int .i64 0, .int .i64 0, .int .i64 0] 35)).alloc
      (.cells #[.slice (some ⟨w.heap.size, 0, none⟩) 1 1, .int .i64 most] 44))
      (w.heap.size + 1) w.heap.size 1 [] most := by
  have hp : ∀ (W : World) (o : Obj), (W.alloc o).heap = W.heap.push o := fun _ _ => rfl
  refine ⟨?_, ?_, by omega, Good.nil, by simpa using h0, h1⟩
  · simp only [hp, Array.getElem?_push]
    simp
  · refine ⟨rfl, .inr ⟨w.heap.size, 1, #[.int .i64 0, .int .i64 0, .int .i64 0, .int .i64 0, .int .i64 0], rfl, Nat.zero_le _, ?_, by simp, by decide, rfl, rfl⟩⟩
    simp only [hp, Array.getElem?_push]
    simp
theorem new_yes (w : World) (most : Int) (h0 : 0 ≤ most) (h1 : most ≤ 1048576) :
    Calls Try.prog 9 #[.int .i64 most] w fun e w' => ∃ r bl cl, e = .returned (.tuple #[.pointer (some ⟨r, 0, none⟩), .int .i64 0]) ∧ RHas w' r bl cl [] most ∧ Below w.heap.size w w' ∧ w.heap.size ≤ r ∧ w.heap.size ≤ bl := by
  go_enter Try.func9, Try.ntmps9
  go_wp2
  go_ret2
  exact ⟨_, _, _, rfl, new_has w most h0 h1, (((Below.refl _ _).alloc (Nat.le_refl _) _).alloc (by simp) _), by omega, by omega⟩

theorem get_calls (w : World) (r bl cl : Nat) (T : List Fr) (most : Int) (i : Int) (H : RHas w r bl cl T most) :
    Calls Try.prog 14 #[.pointer (some ⟨r, 0, none⟩), .int .i64 i] w fun e w' => e = .returned (.tuple #[(FMath.get T i).1.val, .bool (FMath.get T i).2]) ∧ Below w.heap.size w w' := by
  have hr := H.room
  have hm := H.most_le
  have c1 := blk_cell H.blk 0 _ rfl
  have ls := H.lts
  have hu := Try.underlying35
  by_cases hi : 0 ≤ i ∧ i ≤ T.length
  · obtain ⟨n, rfl⟩ := Int.eq_ofNat_of_zero_le hi.1
    have hn : n < T.length + 1 := by omega
    obtain ⟨d0, d1, d2, d3, d4⟩ := row_cells H.rl n (by simpa using hn)
    have hd : FMath.get T (n : Int) = ((zero :: T)[n]'(by simpa using hn), true) := by
      unfold FMath.get
      rw [if_pos hi, Int.toNat_natCast, List.getD_eq_getElem?_getD, List.getElem?_eq_getElem (by simpa using hn)]
      rfl
    rw [hd]
    generalize (zero :: T)[n]'(by simpa using hn) = v at *
    have H := Lib.hid H
    clear hd hi
    go_enter Try.func14, Try.ntmps14
    go_wp2
    refine bodyPost_ret (results_ct rfl _ _ w.heap.size 35 _ (0, 0) _ rfl (heap_alloc_new w _) hu rfl (by kernel_rfl)) rfl ?_
    exact ⟨rfl, (Below.refl _ _).alloc (Nat.le_refl _) _⟩
  · have hd : FMath.get T i = (zero, false) := by unfold FMath.get; rw [if_neg hi]
    rw [hd]
    have H := Lib.hid H
    by_cases h0 : i < 0
    · clear hd hi
      go_enter Try.func14, Try.ntmps14
      go_wp2
      refine bodyPost_ret (results_ct rfl _ _ w.heap.size 35 _ (0, 0) _ rfl (heap_alloc_new w _) hu rfl (by kernel_rfl)) rfl ?_
      exact ⟨rfl, (Below.refl _ _).alloc (Nat.le_refl _) _⟩
    · have h1 : (T.length : Int) + 1 ≤ i := by omega
      clear hd hi
      go_enter Try.func14, Try.ntmps14
      go_wp2
      refine bodyPost_ret (results_ct rfl _ _ w.heap.size 35 _ (0, 0) _ rfl (heap_alloc_new w _) hu rfl (by kernel_rfl)) rfl ?_
      exact ⟨rfl, (Below.refl _ _).alloc (Nat.le_refl _) _⟩
/-- how deep: it calls itself -/
theorem deep_any (w : World) (r bl cl : Nat) (T : List Fr) (most : Int) (H : RHas w r bl cl T most) (k : Nat) : ∀ i : Int, i < k →
    Calls Try.prog 17 #[.pointer (some ⟨r, 0, none⟩), .int .i64 i] w fun e w' => e = .returned (.int .i64 (deep T i)) ∧ w' = w := by
  have hr := H.room
  have hm := H.most_le
  have c1 := blk_cell H.blk 0 _ rfl
  have HH := Lib.hid H
  clear H
  induction k with
  | zero =>
    intro i hi
    have hd : deep T i = 0 := by unfold deep; rw [if_neg (by omega)]
    rw [hd]
    have h1 : i < 1 := by omega
    clear hd
    go_enter Try.func17, Try.ntmps17
    go_wp2_with fail
    go_ret
    exact ⟨rfl, rfl⟩
  | succ k ih =>
    intro i hi
    by_cases h1 : i < 1
    · have hd : deep T i = 0 := by
        unfold deep
        split
        · rename_i h
          obtain rfl : i = 0 := by omega
          have := deps_le T HH.out.good 0
          show (deps T).getD 0 0 = 0
          omega
        · rfl
      rw [hd]
      clear hd
      go_enter Try.func17, Try.ntmps17
      go_wp2_with fail
      go_ret
      exact ⟨rfl, rfl⟩
    · by_cases h2 : (T.length : Int) + 1 ≤ i
      · have hd : deep T i = 0 := by unfold deep; rw [if_neg (by omega)]
        rw [hd]
        clear hd
        go_enter Try.func17, Try.ntmps17
        go_wp2_with fail
        go_ret
        exact ⟨rfl, rfl⟩
      · obtain ⟨n, rfl⟩ : ∃ n : Nat, i = ((n + 1 : Nat) : Int) := ⟨(i - 1).toNat, by omega⟩
        have hn : n < T.length := by omega
        obtain ⟨_, _, _, _, d4⟩ := row_cells HH.out.rl (n + 1) (by simp; omega)
        have hx := HH.out.good.next n hn
        have hdn := deps_next T HH.out.good n hn
        have hb := deps_le T HH.out.good (n + 1)
        have hd : deep T ((n + 1 : Nat) : Int) = 1 + deep T T[n].x := by
          unfold deep
          rw [if_pos (by omega), if_pos (by omega), Int.toNat_natCast, hdn]
          omega
        have hd0 : 0 ≤ deep T T[n].x ∧ deep T T[n].x ≤ 1048576 := by
          have h1 : deep T T[n].x = (deps T).getD T[n].x.toNat 0 := by unfold deep; rw [if_pos (by omega)]
          have h2 := deps_le T HH.out.good T[n].x.toNat
          rw [h1]
          constructor <;> omega
        rw [hd]
        have ih := ih T[n].x (by omega)
        simp only [List.getElem_cons_succ] at d4
        generalize T[n].x = x at *
        generalize deep T x = D at *
        have IH := Lib.hid ih
        clear ih hd hb hdn hx
        go_enter Try.func17, Try.ntmps17
        go_wp2_with (go_at_call 17; refine IH.out.mono ?_; rintro e w' ⟨rfl, rfl⟩)
        go_ret
        exact ⟨rfl, rfl⟩
end Go.Proofs.Ytajflmpdpggcgaa.RRep
