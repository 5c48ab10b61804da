/- A frame is put: in one sentence. -/
import Derived.Test.YtajflmpdpggcgaaFPutNew
namespace Go.Proofs.Ytajflmpdpggcgaa.FPutAll
open Go.RowKit FMath FKey FRep FGet FPut FPutNew Go.Proofs.YtajflmpdpggcgaaW.PrintWords Go.Proofs.YtajflmpdpggcgaaW.PrintLast Go.Proofs.YtajflmpdpggcgaaW.PrintMore

theorem put_calls (w : World) (s bl bd m cl cd : Nat) (T : List Fr) (most : Int) (a : Fr) (H : SHas w s bl bd m cl cd T most) :
    Calls Try.prog 10 #[.pointer (some ⟨s, 0, none⟩), a.val] w fun e w' => e = .returned (.tuple #[.int .i64 (put most T a).1, .int .i64 (put most T a).2.1]) ∧
      ∃ bl' bd' cl' cd', SHas w' s bl' bd' m cl' cd' (put most T a).2.2 most ∧ Turned [s, bl, bd, m] w w' ∧ (bl' = bl ∨ w.heap.size ≤ bl') ∧ (bd' = bd ∨ w.heap.size ≤ bd') := by
  have hr := H.room
  have hm := H.most_le
  have hx : ∀ B, decide (0 ≤ a.x ∧ a.x ≤ T.length) = B → ∀ W, Below w.heap.size w W → Calls Try.prog 19 #[.pointer (some ⟨s, 0, none⟩), .int .i64 a.x] W fun e w' => e = .returned (.bool B) ∧ w' = W :=
    fun B hB W h => has_calls W s bl bd m cl cd T most a.x (H.below h) B hB
  obtain ⟨es, clock, hme, hes⟩ := H.mp
  have hlk : ∀ W, Below w.heap.size w W → (Instr.lookup 54 (.map (some m)) a.val true).run Try.prog W = .ok (.tuple #[.int .i64 (if a ∈ T then (T.idxOf a : Int) + 1 else 0), .bool (decide (a ∈ T))]) W :=
    fun W h => run_look W m clock es T a ((h.block m (lt_of_blk hme)).trans hme) hes
  unfold put
  by_cases hb : bad T a
  · rw [if_pos hb]
    have hb' : a.k < 1 ∨ 3 < a.k ∨ a.n < 0 ∨ a.t < 0 ∨ a.f < 0 ∨ decide (0 ≤ a.x ∧ a.x ≤ T.length) = false := by
      unfold bad at hb
      rcases hb with h | h | h | h | h | h | h
      · exact .inl h
      · exact .inr (.inl h)
      · exact .inr (.inr (.inl h))
      · exact .inr (.inr (.inr (.inl h)))
      · exact .inr (.inr (.inr (.inr (.inl h))))
      · exact .inr (.inr (.inr (.inr (.inr (decide_eq_false (by omega))))))
      · exact .inr (.inr (.inr (.inr (.inr (decide_eq_false (by omega))))))
    refine (bad_walk w s a.k a.n a.t a.f a.x _ (hx _ rfl) hb').mono ?_
    rintro e w' ⟨rfl, hB⟩
    exact ⟨rfl, bl, bd, cl, cd, H.below hB, Turned.of_below hB, .inl rfl, .inl rfl⟩
  · rw [if_neg hb]
    have hb0 := hb
    unfold bad at hb0
    have hxt := hx true (decide_eq_true (by omega))
    by_cases hm : a ∈ T
    · rw [if_pos hm]
      simp only [hm, if_true, decide_true] at hlk
      refine (there_walk w s a.k a.n a.t a.f a.x _ m hxt (by omega) (by omega) (by omega) (by omega) (by omega) (blk_cell H.blk 2 _ rfl) hlk).mono ?_
      rintro e w' ⟨rfl, hB⟩
      exact ⟨rfl, bl, bd, cl, cd, H.below hB, Turned.of_below hB, .inl rfl, .inl rfl⟩
    · rw [if_neg hm]
      simp only [hm, if_false, decide_false] at hlk
      by_cases hf : most ≤ T.length
      · rw [if_pos hf]
        refine (full_walk w s a.k a.n a.t a.f a.x most (T.length + 1) cl m ⟨bl, 0, none⟩ hxt (by omega) (by omega) (by omega) (by omega) (by omega) (blk_cell H.blk 0 _ rfl) (blk_cell H.blk 3 _ rfl) (by omega) (by omega) (blk_cell H.blk 2 _ rfl) hlk).mono ?_
        rintro e w' ⟨rfl, hB⟩
        exact ⟨rfl, bl, bd, cl, cd, H.below hB, Turned.of_below hB, .inl rfl, .inl rfl⟩
      · rw [if_neg hf]
        obtain ⟨j, hj⟩ := Int.eq_ofNat_of_zero_le (show 0 ≤ a.x by omega)
        have hjl : j < T.length + 1 := by omega
        have hd := deps_le T H.good j
        have hdv := row_ints H.rd j (by rw [deps_length]; exact hjl)
        rw [hj] at hxt
        have hav : a.val = .agg #[.int .i64 a.k, .int .i64 a.n, .int .i64 a.t, .int .i64 a.f, .int .i64 j] := by rw [← hj]; rfl
        have hac : a.cells = [.int .i64 a.k, .int .i64 a.n, .int .i64 a.t, .int .i64 a.f, .int .i64 j] := by rw [← hj]; rfl
        have hw : wrap64 ((deps T).getD j 0 + 1) = (deps T).getD j 0 + 1 := by unfold wrap64; omega
        rw [hav] at hlk ⊢
        refine (new_walk w s a.k a.n a.t a.f j most ((deps T).getD j 0) (T.length + 1) bl cl bd cd m (flat T) ((deps T).map (Value.int .i64)) (.map es clock) _ hme
          (fun W h => by rw [← hav]; exact run_write W m clock es T a (.int .i64 ((T.length + 1 : Nat) : Int)) h hes hm)
          hxt (by omega) (by omega) (by omega) (by omega) (by omega) H.blk (by omega) (by omega) (by omega) (by omega) hdv (by omega) (by omega) H.rl H.rd H.sbl H.sbd H.sm H.bld H.blm H.bdm hlk).mono ?_
        rintro e w' ⟨rfl, g1, cap1, g2, cap2, q1, q2, q3, q4, q5, q6, q7, q8, q9, q10, q11, q12⟩
        refine ⟨by simp, g1, g2, cap1, cap2, ⟨?_, ?_, ?_, ⟨_, _, q4, ?_⟩, q6, q7, H.sm, q8, q9, q10, H.good.snoc hb hm, by simp; omega, H.most_le⟩, q5, q11, q12⟩
        · simpa using q1
        · rw [flat_snoc, hac]
          simpa using q2
        · rw [deps_snoc, hj, Int.toNat_natCast, List.map_append, ← hw]
          simpa using q3
        · rw [ents_snoc]
          simp [hes]
end Go.Proofs.Ytajflmpdpggcgaa.FPutAll
