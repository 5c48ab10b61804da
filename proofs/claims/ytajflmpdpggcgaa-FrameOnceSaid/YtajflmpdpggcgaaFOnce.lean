/- FrameOnce: the second Put of a frame; what the numbers tell; a store beside blocks. -/
import Derived.Test.YtajflmpdpggcgaaFArr
import Derived.Test.YtajflmpdpggcgaaFCases
namespace Go.Proofs.Ytajflmpdpggcgaa.FOnce
open Go.RowKit FMath FKey FRep FSat FArr
set_option linter.unusedVariables false
set_option linter.unusedSimpArgs false

theorem nodup_inj {T : List Fr} (h : T.Nodup) {i j : Nat} {hi : i < T.length} {hj : j < T.length} (e : T[i] = T[j]) : i = j := by
  have hp := List.pairwise_iff_getElem.1 h
  rcases Nat.lt_trichotomy i j with h1 | h1 | h1
  · exact absurd e (hp i j hi hj h1)
  · exact h1
  · exact absurd e.symm (hp j i hj hi h1)
theorem put_there {T : List Fr} {c : Fr} (g : FMath.Good T) (hb : ¬ bad T c) (j : Nat) (h : j < T.length) (hc : T[j] = c) : put 1000 T c = ((j : Int) + 1, 0, T) := by
  have hm : c ∈ T := hc ▸ List.getElem_mem h
  have hi : T.idxOf c = j := by
    have hl := List.idxOf_lt_length_of_mem hm
    exact nodup_inj g.nodup ((List.getElem_idxOf hl).trans hc.symm)
  unfold put
  rw [if_neg hb, if_pos hm, hi]
/-- what an OK tells -/
structure Fine (T : List Fr) (c : Fr) (a : Int) (j : Nat) : Prop where
  lt : j < T.length
  at_ : T[j]? = some c
  num : a = (j : Int) + 1
  next : c.x < a
  le : a ≤ T.length
  dp : deep T a = deep T c.x + 1
theorem fine {T : List Fr} {c : Fr} (g : FMath.Good T) (j : Nat) (h : j < T.length) (hc : T[j] = c) : Fine T c ((j : Int) + 1) j := by
  have hn := g.next j h
  rw [hc] at hn
  refine ⟨h, by rw [List.getElem?_eq_getElem h, hc], rfl, by omega, by omega, ?_⟩
  have hd := deps_next T g j h
  rw [hc] at hd
  unfold deep
  rw [if_pos (by omega), if_pos (by omega), show ((j : Int) + 1).toNat = j + 1 by omega, hd]
theorem put_again {T : List Fr} (c : Fr) (g : FMath.Good T) (hr : T.length < 1000) :
    ∃ a er T', put 1000 T c = (a, er, T') ∧ put 1000 T' c = (a, er, T') ∧ FMath.Good T' ∧ T'.length ≤ T.length + 1 ∧ (∃ S, T' = T ++ S) ∧ ((er = 1 ∧ a = 0) ∨ (er = 0 ∧ ∃ j, Fine T' c a j)) := by
  rcases put_cases 1000 T c g (by omega) with ⟨hb, hp⟩ | ⟨j, hj, hc, hb, hp⟩ | ⟨_, _, hf, hp⟩ | ⟨hm, hb, _, hp⟩
  · exact ⟨0, 1, T, hp, hp, g, by omega, ⟨[], by simp⟩, .inl ⟨rfl, rfl⟩⟩
  · exact ⟨_, 0, T, hp, hp, g, by omega, ⟨[], by simp⟩, .inr ⟨rfl, j, fine g j hj hc⟩⟩
  · omega
  · have g' := g.snoc hb hm
    have hb' : ¬ bad (T ++ [c]) c := by
      unfold bad at hb ⊢
      simp
      omega
    have hlt : T.length < (T ++ [c]).length := by simp
    have hat : (T ++ [c])[T.length] = c := by simp
    exact ⟨_, 0, T ++ [c], hp, put_there g' hb' T.length hlt hat, g', by simp, ⟨[c], rfl⟩, .inr ⟨rfl, T.length, fine g' T.length hlt hat⟩⟩
/-- the numbers of the first i frames of L, as the store T has them -/
def Nums (L T : List Fr) (i : Nat) (I : List Int) : Prop := I.length = i ∧ ∀ k c, k < i → L[k]? = some c → I.getD k 0 = 0 ∨ ∃ j : Nat, T[j]? = some c ∧ I.getD k 0 = (j : Int) + 1
theorem Nums.nil (L T : List Fr) : Nums L T 0 [] := ⟨rfl, fun k c h => absurd h (by omega)⟩
theorem Nums.more {L T : List Fr} {i : Nat} {I : List Int} (h : Nums L T i I) (S : List Fr) : Nums L (T ++ S) i I := by
  refine ⟨h.1, fun k c hk hc => ?_⟩
  rcases h.2 k c hk hc with h0 | ⟨j, hj, hi⟩
  · exact .inl h0
  · refine .inr ⟨j, ?_, hi⟩
    have : j < T.length := by
      rcases Nat.lt_or_ge j T.length with hl | hl
      · exact hl
      · rw [List.getElem?_eq_none hl] at hj; cases hj
    rw [List.getElem?_append_left this]
    exact hj
theorem Nums.snoc {L T : List Fr} {i : Nat} {I : List Int} (h : Nums L T i I) (c : Fr) (hc : L[i]? = some c) (a : Int) (ha : a = 0 ∨ ∃ j : Nat, T[j]? = some c ∧ a = (j : Int) + 1) : Nums L T (i + 1) (I ++ [a]) := by
  refine ⟨by simp [h.1], fun k c' hk hc' => ?_⟩
  have hg : ∀ k, (I ++ [a]).getD k 0 = if k < I.length then I.getD k 0 else if k = I.length then a else 0 := fun k => by
    rw [List.getD_eq_getElem?_getD]
    by_cases h1 : k < I.length
    · rw [List.getElem?_append_left h1, if_pos h1, ← List.getD_eq_getElem?_getD]
    · rw [List.getElem?_append_right (by omega), if_neg h1]
      by_cases h2 : k = I.length
      · subst h2; simp
      · rw [if_neg h2, List.getElem?_eq_none (by simp; omega)]; rfl
  rw [hg, h.1]
  by_cases h1 : k < i
  · rw [if_pos h1]
    exact h.2 k c' h1 hc'
  · have : k = i := by omega
    subst this
    rw [if_neg (by omega), if_pos rfl]
    rw [hc] at hc'
    cases hc'
    exact ha
/-- one number against another one -/
theorem Nums.tell {L T : List Fr} {i : Nat} {I : List Int} (h : Nums L T i I) (g : FMath.Good T) {c : Fr} {a : Int} {j : Nat} (hf : Fine T c a j) (k : Nat) (c1 : Fr) (hk : k < i) (h1 : L[k]? = some c1) :
    (c1 = c ∧ I.getD k 0 = a) ∨ (c1 = c ∧ I.getD k 0 = 0) ∨ (c1 ≠ c ∧ I.getD k 0 ≠ a) := by
  have hn := hf.num
  rcases h.2 k c1 hk h1 with h0 | ⟨j', hj', hi'⟩
  · by_cases e : c1 = c
    · exact .inr (.inl ⟨e, h0⟩)
    · exact .inr (.inr ⟨e, by omega⟩)
  · by_cases e : c1 = c
    · have hlt : j' < T.length := by
        rcases Nat.lt_or_ge j' T.length with hl | hl
        · exact hl
        · rw [List.getElem?_eq_none hl] at hj'; cases hj'
      have he : T[j'] = T[j]'hf.lt := by
        have q1 := hf.at_
        rw [List.getElem?_eq_getElem hf.lt] at q1
        rw [List.getElem?_eq_getElem hlt] at hj'
        rw [Option.some.inj q1, Option.some.inj hj']
        exact e
      have : j' = j := nodup_inj g.nodup he
      exact .inl ⟨e, by omega⟩
    · refine .inr (.inr ⟨e, fun hia => e ?_⟩)
      have : j' = j := by omega
      subst this
      rw [hf.at_] at hj'
      cases hj'
      rfl
/-- the store, and the numbers' row beside it -/
structure Beside (B : Nat) (w : World) (s : Nat) (T : List Fr) (g n cap : Nat) (I : List Int) : Prop where
  off : SOff [g] B w s T 1000
  row : w.ownsRow 0 3 1 (.slice (some ⟨g, 0, none⟩) n cap) n (I.map (Value.int .i64))
  ge : B ≤ g
theorem SOff.below {E : List Nat} {B : Nat} {w w' : World} {s : Nat} {T : List Fr} {most : Int} (H : SOff E B w s T most) (h : Below w.heap.size w w') : SOff E B w' s T most := by
  obtain ⟨bl, bd, m, cl, cd, h1, h2, h3, h4, h5, h6⟩ := H
  have := h.size
  exact ⟨bl, bd, m, cl, cd, h1.below h, h2, h3, h4, h5, fun x hx => ⟨by have := (h6 x hx).1; omega, (h6 x hx).2⟩⟩
theorem Beside.below {B : Nat} {w w' : World} {s : Nat} {T : List Fr} {g n cap : Nat} {I : List Int} (H : Beside B w s T g n cap I) (h : Below w.heap.size w w') : Beside B w' s T g n cap I :=
  ⟨SOff.below H.off h, ownsRow_turned (Turned.of_below (F := []) h) H.row (by simp), H.ge⟩
theorem Beside.drew {B : Nat} {w : World} {s : Nat} {T : List Fr} {g n cap : Nat} {I : List Int} (H : Beside B w s T g n cap I) : Beside B w.drew s T g n cap I := H.below (Below.refl _ _).drew
theorem Beside.put {B : Nat} {w : World} {s : Nat} {T : List Fr} {g n cap : Nat} {I : List Int} (H : Beside B w s T g n cap I) (a : Fr) (hB : B ≤ w.heap.size) :
    Calls Try.prog 10 #[.pointer (some ⟨s, 0, none⟩), a.val] w fun e w' => e = .returned (.tuple #[.int .i64 (put 1000 T a).1, .int .i64 (put 1000 T a).2.1]) ∧ Beside B w' s (put 1000 T a).2.2 g n cap I ∧ Below B w w' := by
  refine (oput H.off a hB).mono ?_
  rintro e w' ⟨rfl, h1, h2, h3⟩
  refine ⟨rfl, ⟨h1, ?_, H.ge⟩, h2⟩
  obtain ⟨q1, q2⟩ := H.row
  refine ⟨q1, ?_⟩
  rcases q2 with ⟨q2, _⟩ | ⟨g', cap', cur, q2, q3, q4, q5⟩
  · cases q2
  · injection q2 with q2a q2b q2c
    injection q2a with q2a
    injection q2a with q2a
    subst q2a
    subst q2c
    exact .inr ⟨g, cap, cur, rfl, q3, (h3 g (by simp)).trans q4, q5⟩
theorem Beside.append {B : Nat} {w w' : World} {s : Nat} {T : List Fr} {g n cap g' cap' : Nat} {I J : List Int} (H : Beside B w s T g n cap I) (hg : w.grownBy w' (some g)) (ho : w'.ownsRow 0 3 1 (.slice (some ⟨g', 0, none⟩) (n + 1) cap') (n + 1) (J.map (Value.int .i64)))
    (hat : g = g' ∨ w.heap.size ≤ g') (hlt : g' < w'.heap.size) (hB : B ≤ w.heap.size) : Beside B w' s T g' (n + 1) cap' J ∧ Below B w w' := by
  obtain ⟨bl, bd, m, cl, cd, h1, h2, h3, h4, h5, h6⟩ := H.off
  have hs := hg.size
  have l := h1.lts
  have hge := H.ge
  have h6' := h6 g (by simp)
  have ht : Turned [g] w w' := ⟨hg.os, hg.tape, hg.output, hg.size, fun k hk hn => hg.block k hk (by simpa using hn)⟩
  have hn := h6'.2
  simp only [List.mem_cons, List.not_mem_nil, or_false, not_or] at hn
  refine ⟨⟨⟨bl, bd, m, cl, cd, h1.turned ht (by simp; omega) (by simp; omega) (by simp; omega) (by simp; omega), h2, h3, h4, h5, fun x hx => ?_⟩, ho, by omega⟩, ht.below (Below.refl B w) (by simp; omega) hB⟩
  simp only [List.mem_cons, List.not_mem_nil, or_false] at hx
  subst hx
  refine ⟨hlt, ?_⟩
  simp only [List.mem_cons, List.not_mem_nil, or_false, not_or]
  omega
/-- the beginning: an empty row in a new block -/
theorem Beside.start {B : Nat} {w : World} {s : Nat} (H : SAt B w s [] 1000) (hB : B ≤ w.heap.size) : Beside B (w.alloc (.cells #[] 3)) s [] w.heap.size 0 0 [] := by
  refine ⟨SAt.off H ((Below.refl _ _).alloc (Nat.le_refl _) _) _ (by simp), ⟨rfl, .inr ⟨w.heap.size, 0, #[], rfl, Nat.zero_le _, heap_alloc_new w _, Nat.le_refl _, Nat.zero_le _, rfl, rfl⟩⟩, hB⟩
theorem Beside.cell {B : Nat} {w : World} {s : Nat} {T : List Fr} {g n cap : Nat} {I : List Int} (H : Beside B w s T g n cap I) (k : Nat) (hk : k < I.length) : w.cell? ⟨g, k, none⟩ = some (.int .i64 (I.getD k 0)) := row_ints H.row k hk
end Go.Proofs.Ytajflmpdpggcgaa.FOnce
