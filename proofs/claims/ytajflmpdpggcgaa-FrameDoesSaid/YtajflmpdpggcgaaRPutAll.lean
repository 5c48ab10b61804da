/- The document's Put: in one sentence. -/
import Derived.Test.YtajflmpdpggcgaaRPutNew
namespace Go.Proofs.Ytajflmpdpggcgaa.RPutAll
open Go.RowKit FMath FKey FRep RRep RPut RPutThere RPutNew Go.Proofs.YtajflmpdpggcgaaW.PrintWords Go.Proofs.YtajflmpdpggcgaaW.PrintLast Go.Proofs.YtajflmpdpggcgaaW.PrintMore

theorem idx_before (T : List Fr) (a : Fr) (j : Nat) (h : j < T.length) (hj : j < T.idxOf a) : T[j] ≠ a := by
  intro he
  have := List.not_of_lt_findIdx (p := (· == a)) (xs := T) (by simpa [List.idxOf] using hj)
  simp [he] at this
theorem put_calls (w : World) (r bl cl : Nat) (T : List Fr) (most : Int) (a : Fr) (H : RHas w r bl cl T most) :
    Calls Try.prog 11 #[.pointer (some ⟨r, 0, none⟩), a.val] w fun e w' => e = .returned (.tuple #[.int .i64 (put most T a).1, .int .i64 (put most T a).2.1]) ∧
      ∃ bl' cl', RHas w' r bl' cl' (put most T a).2.2 most ∧ Turned [r, bl] w w' ∧ (bl' = bl ∨ w.heap.size ≤ bl') := by
  have hr := H.room
  have hm := H.most_le
  have c0 := blk_cell H.blk 0 _ rfl
  obtain ⟨k, n, t, f, x⟩ := a
  unfold put
  by_cases hb : bad T ⟨k, n, t, f, x⟩
  · rw [if_pos hb]
    have hb' : k < 1 ∨ 3 < k ∨ n < 0 ∨ t < 0 ∨ f < 0 ∨ x < 0 ∨ ((T.length + 1 : Nat) : Int) ≤ x := by
      unfold bad at hb
      simp only at hb
      omega
    have key : Calls Try.prog 11 #[.pointer (some ⟨r, 0, none⟩), .agg #[.int .i64 k, .int .i64 n, .int .i64 t, .int .i64 f, .int .i64 x]] w fun e w' => e = .returned (.tuple #[.int .i64 0, .int .i64 1]) ∧ Below w.heap.size w w' := by
      by_cases q0 : k < 1
      · exact bad0 w r bl _ cl k n t f x c0 (by omega) q0
      by_cases q1 : 3 < k
      · exact bad1 w r bl _ cl k n t f x c0 (by omega) q0 q1
      by_cases q2 : n < 0
      · exact bad2 w r bl _ cl k n t f x c0 (by omega) q0 q1 q2
      by_cases q3 : t < 0
      · exact bad3 w r bl _ cl k n t f x c0 (by omega) q0 q1 q2 q3
      by_cases q4 : f < 0
      · exact bad4 w r bl _ cl k n t f x c0 (by omega) q0 q1 q2 q3 q4
      by_cases q5 : x < 0
      · exact bad5 w r bl _ cl k n t f x c0 (by omega) q0 q1 q2 q3 q4 q5
      · exact bad6 w r bl _ cl k n t f x c0 (by omega) q0 q1 q2 q3 q4 q5 (by omega)
    refine key.mono ?_
    rintro e w' ⟨rfl, hB⟩
    exact ⟨rfl, bl, cl, H.below hB, Turned.of_below hB, .inl rfl⟩
  · rw [if_neg hb]
    unfold bad at hb
    simp only at hb
    by_cases hm : (⟨k, n, t, f, x⟩ : Fr) ∈ T
    · rw [if_pos hm]
      have hl := List.idxOf_lt_length_of_mem hm
      refine (there_walk w r bl cl k n t f x T most H (T.idxOf ⟨k, n, t, f, x⟩) hl (List.getElem_idxOf hl) (fun j h hj => idx_before T _ j h hj) (by omega) (by omega) (by omega) (by omega) (by omega) (by omega) (by omega)).mono ?_
      rintro e w' ⟨rfl, hB⟩
      exact ⟨rfl, bl, cl, H.below hB, Turned.of_below hB, .inl rfl⟩
    · rw [if_neg hm]
      have hne : ∀ j (h : j < T.length), T[j] ≠ (⟨k, n, t, f, x⟩ : Fr) := fun j h he => hm (he ▸ List.getElem_mem h)
      by_cases hf : most ≤ T.length
      · rw [if_pos hf]
        refine (full_walk w r bl cl k n t f x T most H hne hf (by omega) (by omega) (by omega) (by omega) (by omega) (by omega) (by omega)).mono ?_
        rintro e w' ⟨rfl, hB⟩
        exact ⟨rfl, bl, cl, H.below hB, Turned.of_below hB, .inl rfl⟩
      · rw [if_neg hf]
        exact new_walk w r bl cl k n t f x T most H hne (by omega) (by omega) (by omega) (by omega) (by omega) (by omega) (by omega) (by omega)
end Go.Proofs.Ytajflmpdpggcgaa.RPutAll
