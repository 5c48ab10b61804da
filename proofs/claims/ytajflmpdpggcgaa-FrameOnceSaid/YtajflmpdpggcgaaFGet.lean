/- The store's small functions: has, Len, Get, Deep. -/
import Derived.Test.YtajflmpdpggcgaaFRep
import Derived.WalkKit
import Derived.WalkLawsBesides
import Derived.WalkSpells
namespace Go.Proofs.Ytajflmpdpggcgaa.FGet
open Go.RowKit FMath FKey FRep Go.Proofs.YtajflmpdpggcgaaW.PrintWords Go.Proofs.YtajflmpdpggcgaaW.PrintLast Go.Proofs.YtajflmpdpggcgaaW.PrintMore

theorem has_calls (w : World) (s bl bd m cl cd : Nat) (T : List Fr) (most : Int) (i : Int) (H : SHas w s bl bd m cl cd T most) (b : Bool) (hb : decide (0 ≤ i ∧ i ≤ T.length) = b) :
    Calls Try.prog 19 #[.pointer (some ⟨s, 0, none⟩), .int .i64 i] w fun e w' => e = .returned (.bool b) ∧ w' = w := by
  have hr := H.room
  have hm := H.most_le
  have c0 := blk_cell H.blk 0 _ rfl
  have H := Lib.hid H
  subst hb
  by_cases h0 : 0 ≤ i
  · go_enter Try.func19, Try.ntmps19
    go_wp2
    go_ret
    refine ⟨?_, rfl⟩
    show Ending.returned (Value.bool (decide (i < ↑T.length + 1))) = _
    rw [show decide (i < ↑T.length + 1) = decide (0 ≤ i ∧ i ≤ T.length) by rw [decide_eq_decide]; omega]
  · go_enter Try.func19, Try.ntmps19
    go_wp2
    go_ret
    refine ⟨?_, rfl⟩
    show Ending.returned (Value.bool false) = _
    simp
    omega
theorem len_calls (w : World) (s bl bd m cl cd : Nat) (T : List Fr) (most : Int) (H : SHas w s bl bd m cl cd T most) :
    Calls Try.prog 15 #[.pointer (some ⟨s, 0, none⟩)] w fun e w' => e = .returned (.int .i64 T.length) ∧ w' = w := by
  have hr := H.room
  have hm := H.most_le
  have c0 := blk_cell H.blk 0 _ rfl
  have H := Lib.hid H
  go_enter Try.func15, Try.ntmps15
  go_wp2
  go_ret
  refine ⟨?_, rfl⟩
  simp
theorem deep_calls (w : World) (s bl bd m cl cd : Nat) (T : List Fr) (most : Int) (i : Int) (H : SHas w s bl bd m cl cd T most) :
    Calls Try.prog 16 #[.pointer (some ⟨s, 0, none⟩), .int .i64 i] w fun e w' => e = .returned (.int .i64 (deep T i)) ∧ w' = w := by
  have hr := H.room
  have hm := H.most_le
  have c1 := blk_cell H.blk 1 _ rfl
  have hc := fun b hb => has_calls w s bl bd m cl cd T most i H b hb
  by_cases hi : 0 ≤ i ∧ i ≤ T.length
  · obtain ⟨n, rfl⟩ := Int.eq_ofNat_of_zero_le hi.1
    have hn : n < T.length + 1 := by omega
    have hv := row_ints H.rd n (by rw [deps_length]; exact hn)
    have hd : deep T (n : Int) = (deps T).getD n 0 := by unfold deep; rw [if_pos hi, Int.toNat_natCast]
    rw [hd]
    have hc := hc true (decide_eq_true hi)
    generalize (deps T).getD n 0 = v at *
    have H := Lib.hid H
    have HC := Lib.hid hc
    clear hc hd hi
    go_enter Try.func16, Try.ntmps16
    go_wp2_with (go_at_call 19; refine HC.out.mono ?_; rintro e w' ⟨rfl, rfl⟩)
    go_ret
    exact ⟨rfl, rfl⟩
  · have hd : deep T i = 0 := by unfold deep; rw [if_neg hi]
    rw [hd]
    have hc := hc false (decide_eq_false hi)
    have H := Lib.hid H
    have HC := Lib.hid hc
    clear hc hd hi
    go_enter Try.func16, Try.ntmps16
    go_wp2_with (go_at_call 19; refine HC.out.mono ?_; rintro e w' ⟨rfl, rfl⟩)
    go_ret
    exact ⟨rfl, rfl⟩
theorem get_calls (w : World) (s bl bd m cl cd : Nat) (T : List Fr) (most : Int) (i : Int) (H : SHas w s bl bd m cl cd T most) :
    Calls Try.prog 13 #[.pointer (some ⟨s, 0, none⟩), .int .i64 i] w fun e w' => e = .returned (.tuple #[(FMath.get T i).1.val, .bool (FMath.get T i).2]) ∧ Below w.heap.size w w' := by
  have hr := H.room
  have hm := H.most_le
  have c1 := blk_cell H.blk 0 _ rfl
  have ls := H.lts
  have hc := fun W (h : Below w.heap.size w W) b hb => has_calls W s bl bd m cl cd T most i (H.below h) b hb
  have hu := Try.underlying33
  by_cases hi : 0 ≤ i ∧ i ≤ T.length
  · obtain ⟨n, rfl⟩ := Int.eq_ofNat_of_zero_le hi.1
    have hn : n < T.length + 1 := by omega
    obtain ⟨d0, d1, d2, d3, d4⟩ := row_cells H.rl n (by simpa using hn)
    have hd : FMath.get T (n : Int) = ((zero :: T)[n]'(by simpa using hn), true) := by
      unfold FMath.get
      rw [if_pos hi, Int.toNat_natCast, List.getD_eq_getElem?_getD, List.getElem?_eq_getElem (by simpa using hn)]
      rfl
    rw [hd]
    have hc := fun W h => hc W h true (decide_eq_true hi)
    generalize (zero :: T)[n]'(by simpa using hn) = v at *
    have H := Lib.hid H
    have HC := Lib.hid hc
    clear hc hd hi
    go_enter Try.func13, Try.ntmps13
    go_wp2_with (go_at_call 19; refine (HC.out _ ((Below.refl _ _).alloc (Nat.le_refl _) _)).mono ?_; rintro e w' ⟨rfl, rfl⟩)
    refine bodyPost_ret (results_ct rfl _ _ w.heap.size 33 _ (0, 0) _ rfl (heap_alloc_new w _) hu rfl (by kernel_rfl)) rfl ?_
    exact ⟨rfl, (Below.refl _ _).alloc (Nat.le_refl _) _⟩
  · have hd : FMath.get T i = (zero, false) := by unfold FMath.get; rw [if_neg hi]
    rw [hd]
    have hc := fun W h => hc W h false (decide_eq_false hi)
    have H := Lib.hid H
    have HC := Lib.hid hc
    clear hc hd hi
    go_enter Try.func13, Try.ntmps13
    go_wp2_with (go_at_call 19; refine (HC.out _ ((Below.refl _ _).alloc (Nat.le_refl _) _)).mono ?_; rintro e w' ⟨rfl, rfl⟩)
    refine bodyPost_ret (results_ct rfl _ _ w.heap.size 33 _ (0, 0) _ rfl (heap_alloc_new w _) hu rfl (by kernel_rfl)) rfl ?_
    exact ⟨rfl, (Below.refl _ _).alloc (Nat.le_refl _) _⟩
end Go.Proofs.Ytajflmpdpggcgaa.FGet
