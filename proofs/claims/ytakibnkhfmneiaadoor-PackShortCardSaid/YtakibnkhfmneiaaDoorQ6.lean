/- Go functions as Lean functions, each with the proof that its call answers just so; written by wip/tools/myprint.py. -/
import Derived.Test.YtakibnkhfmneiaaDoorQ0
namespace Go.Proofs.YtakibnkhfmneiaaDoor.Q
open Go.RowKit Go.Proofs.YtakibnkhfmneiaaDoorW.PrintWords Go.Proofs.YtakibnkhfmneiaaDoorW.PrintLast Go.Proofs.YtakibnkhfmneiaaDoorW.PrintMore
attribute [local go_sem] max2_int min2_int max_two min_two max_three min_three max_four min_four   -- for this text's walks alone
set_option linter.unusedVariables false
set_option linter.unusedSimpArgs false


/-! ### pack_tokens: function 21 (its walk: PTok) -/
def pack_tokens.f (a0 : ByteArray) (a1 : Int) (a2 : Int) : Option (List (S43) × Int × Int) := if 0 ≤ a1 then (if a1 ≤ a0.size then (if a0.size ≤ 1000 then (if 0 ≤ a2 then (if a2 ≤ 1048576 then some ((PTok.toks a0 a2.toNat [] a1).1.map (fun p => (⟨p.1, p.2⟩ : S43)), (PTok.toks a0 a2.toNat [] a1).2.1, (PTok.toks a0 a2.toNat [] a1).2.2) else none) else none) else none) else none) else none
theorem pack_tokens.calls (a0 : ByteArray) (a1 : Int) (a2 : Int) (r1 : List (S43)) (r2 : Int) (r3 : Int) (w : World) (h : pack_tokens.f a0 a1 a2 = some (r1, r2, r3)) :
    Calls Tryd.prog 21 #[.string a0, .int .i64 a1, .int .u64 a2] w fun e w' => ∃ v0_ : Value, e = .returned (.tuple #[v0_, .int .i64 r2, .int .i64 r3]) ∧ Kd.R k43 43 w' w.heap.size (fun _ => True) v0_ r1 ∧ Below w.heap.size w w' := by
  unfold pack_tokens.f at h
  by_cases h0 : 0 ≤ a1
  · rw [if_pos h0] at h
    by_cases h1 : a1 ≤ a0.size
    · rw [if_pos h1] at h
      by_cases h2 : a0.size ≤ 1000
      · rw [if_pos h2] at h
        by_cases h3 : 0 ≤ a2
        · rw [if_pos h3] at h
          by_cases h4 : a2 ≤ 1048576
          · rw [if_pos h4] at h
            obtain ⟨a, rfl⟩ := Int.eq_ofNat_of_zero_le h0
            obtain ⟨m, rfl⟩ := Int.eq_ofNat_of_zero_le h3
            rw [Int.toNat_natCast] at h
            simp only [Option.some.injEq, Prod.mk.injEq] at h
            obtain ⟨rfl, rfl, rfl⟩ := h
            refine (PTok.walk a0 a m w (by omega) h2 (by omega)).mono ?_
            rintro e w' ⟨v, rfl, ho, hb⟩
            refine ⟨v, rfl, ⟨fun _ _ => trivial, HAppd.cl (PTok.toks a0 m [] a).1, by rw [List.length_map]; exact ho, by rw [HAppd.cl_length, List.length_map]; rfl, fun j p hp => ?_⟩, hb⟩
            rw [List.getElem?_map, Option.map_eq_some_iff] at hp
            obtain ⟨x, hx, rfl⟩ := hp
            show k43.M _ _ _ _ (((HAppd.cl _).drop (j * 2)).take 2)
            rw [HAppC.cl_cut _ j x hx]
            exact k43_mkM _ _ _ _
          · rw [if_neg h4] at h; cases h
        · rw [if_neg h3] at h; cases h
      · rw [if_neg h2] at h; cases h
    · rw [if_neg h1] at h; cases h
  · rw [if_neg h0] at h; cases h

end Go.Proofs.YtakibnkhfmneiaaDoor.Q
