/- Sets: there is one list of runs alone, in plain Lean. -/
import Derived.Test.YtdociniomegpnaaDoorCRunsP
namespace Go.Proofs.YtdociniomegpnaaDoor.CRunsQ
open CBits CMake COps CRuns CPlain CRunsP
set_option linter.unusedVariables false
set_option linter.unusedSimpArgs false
def Inl (L : List (Nat × Nat)) (i : Nat) : Prop := ∃ x ∈ L, x.1 ≤ i ∧ i ≤ x.2
theorem inl_cons {x : Nat × Nat} {L : List (Nat × Nat)} {i : Nat} : Inl (x :: L) i ↔ (x.1 ≤ i ∧ i ≤ x.2) ∨ Inl L i := by
  unfold Inl
  constructor
  · rintro ⟨y, hy, h⟩
    rcases List.mem_cons.1 hy with rfl | hy
    · exact .inl h
    · exact .inr ⟨y, hy, h⟩
  · rintro (h | ⟨y, hy, h⟩)
    · exact ⟨x, List.mem_cons_self, h⟩
    · exact ⟨y, List.mem_cons_of_mem _ hy, h⟩
theorem one_list : ∀ (L M : List (Nat × Nat)), Chain L → Chain M → (∀ x ∈ L, x.1 ≤ x.2) → (∀ x ∈ M, x.1 ≤ x.2) → (∀ i, Inl L i ↔ Inl M i) → L = M
  | [], [], _, _, _, _, _ => rfl
  | [], y :: M, _, _, _, hm, h => by
    obtain ⟨x, hx, _⟩ := (h y.1).2 ⟨y, List.mem_cons_self, Nat.le_refl _, hm y List.mem_cons_self⟩
    cases hx
  | x :: L, [], _, _, hl, _, h => by
    obtain ⟨y, hy, _⟩ := (h x.1).1 ⟨x, List.mem_cons_self, Nat.le_refl _, hl x List.mem_cons_self⟩
    cases hy
  | x :: L, y :: M, cl, cm, hl, hm, h => by
    have c1 := List.pairwise_cons.1 cl
    have c2 := List.pairwise_cons.1 cm
    have hx := hl x List.mem_cons_self
    have hy := hm y List.mem_cons_self
    have e1 : y.1 ≤ x.1 := by
      rcases inl_cons.1 ((h x.1).1 (inl_cons.2 (.inl ⟨Nat.le_refl _, hx⟩))) with g | ⟨z, hz, g⟩
      · exact g.1
      · have := c2.1 z hz; omega
    have e2 : x.1 ≤ y.1 := by
      rcases inl_cons.1 ((h y.1).2 (inl_cons.2 (.inl ⟨Nat.le_refl _, hy⟩))) with g | ⟨z, hz, g⟩
      · exact g.1
      · have := c1.1 z hz; omega
    have e3 : y.2 ≤ x.2 := by
      rcases Nat.lt_or_ge x.2 y.2 with g | g
      · rcases inl_cons.1 ((h (x.2 + 1)).2 (inl_cons.2 (.inl ⟨by omega, by omega⟩))) with g | ⟨z, hz, g⟩
        · omega
        · have := c1.1 z hz; omega
      · exact g
    have e4 : x.2 ≤ y.2 := by
      rcases Nat.lt_or_ge y.2 x.2 with g | g
      · rcases inl_cons.1 ((h (y.2 + 1)).1 (inl_cons.2 (.inl ⟨by omega, by omega⟩))) with g | ⟨z, hz, g⟩
        · omega
        · have := c2.1 z hz; omega
      · exact g
    have e : x = y := Prod.ext (by omega) (by omega)
    subst e
    have ht : ∀ i, Inl L i ↔ Inl M i := fun i => by
      constructor
      · rintro ⟨z, hz, g⟩
        rcases inl_cons.1 ((h i).1 (inl_cons.2 (.inr ⟨z, hz, g⟩))) with k | k
        · have := c1.1 z hz; omega
        · exact k
      · rintro ⟨z, hz, g⟩
        rcases inl_cons.1 ((h i).2 (inl_cons.2 (.inr ⟨z, hz, g⟩))) with k | k
        · have := c2.1 z hz; omega
        · exact k
    rw [one_list L M c1.2 c2.2 (fun z hz => hl z (List.mem_cons_of_mem _ hz)) (fun z hz => hm z (List.mem_cons_of_mem _ hz)) ht]
theorem tb_orl (L : List (Nat × Nat)) (i : Nat) : (orl L).testBit i = true ↔ Inl L i := by
  have h : ∀ (L : List (Nat × Nat)) (a : Nat), (L.foldl (fun a x => a ||| rg x.1 (x.2 + 1 - x.1)) a).testBit i = true ↔ a.testBit i = true ∨ Inl L i := by
    intro L
    induction L with
    | nil => intro a; simp [Inl]
    | cons x L ih =>
      intro a
      rw [List.foldl_cons, ih, Nat.testBit_or, Bool.or_eq_true, tb_rg, decide_eq_true_eq, inl_cons, or_assoc]
      constructor
      · rintro (h | h | h)
        · exact .inl h
        · exact .inr (.inl ⟨h.1, by omega⟩)
        · exact .inr (.inr h)
      · rintro (h | h | h)
        · exact .inl h
        · exact .inr (.inl ⟨h.1, by omega⟩)
        · exact .inr (.inr h)
  unfold orl
  rw [h]
  simp
structure Rl (N i : Nat) (L : List (Nat × Nat)) : Prop where
  rise : ∀ x ∈ L, x.1 ≤ x.2 ∧ x.2 < 256 ∧ x.1 < i
  bits : ∀ x ∈ L, ∀ j, x.1 ≤ j → j ≤ x.2 → N.testBit j = true
  max : ∀ x ∈ L, x.2 = 255 ∨ N.testBit (x.2 + 1) = false
  chain : Chain L
  cov : ∀ j, j < i → N.testBit j = true → Inl L j
  len : L.length ≤ i
theorem Rl.zero (N : Nat) : Rl N 0 [] := ⟨by simp, by simp, by simp, by simp [Chain], fun j h => absurd h (by omega), by simp⟩
theorem Rl.no {N i : Nat} {L : List (Nat × Nat)} (h : Rl N i L) (hb : N.testBit i = false) : Rl N (i + 1) L :=
  ⟨fun x hx => ⟨(h.rise x hx).1, (h.rise x hx).2.1, by have := (h.rise x hx).2.2; omega⟩, h.bits, h.max, h.chain, fun j hj hj2 => by
    by_cases e : j = i
    · subst e; rw [hb] at hj2; cases hj2
    · exact h.cov j (by omega) hj2, by have := h.len; omega⟩
theorem Rl.old {N i : Nat} {L : List (Nat × Nat)} (h : Rl N (i + 1) L) (hi : i + 1 < 256) (h0 : N.testBit i = true) (hb : N.testBit (i + 1) = true) : Rl N (i + 2) L :=
  ⟨fun x hx => ⟨(h.rise x hx).1, (h.rise x hx).2.1, by have := (h.rise x hx).2.2; omega⟩, h.bits, h.max, h.chain, fun j hj hj2 => by
    by_cases e : j = i + 1
    · subst e
      obtain ⟨x, hx, g1, g2⟩ := h.cov i (by omega) h0
      refine ⟨x, hx, by omega, ?_⟩
      rcases h.max x hx with m | m
      · omega
      · rcases Nat.lt_or_ge i x.2 with k | k
        · omega
        · rw [show x.2 + 1 = i + 1 by omega, hb] at m; cases m
    · exact h.cov j (by omega) hj2, by have := h.len; omega⟩
theorem Rl.new {N i K : Nat} {L : List (Nat × Nat)} (h : Rl N i L) (hi : i < 256) (h0 : i = 0 ∨ N.testBit (i - 1) = false) (hK : i ≤ K) (hK2 : K < 256) (hb : ∀ j, i ≤ j → j ≤ K → N.testBit j = true) (hm : K = 255 ∨ N.testBit (K + 1) = false) :
    Rl N (i + 1) (L ++ [(i, K)]) := by
  refine ⟨fun x hx => ?_, fun x hx => ?_, fun x hx => ?_, chain_snoc h.chain fun y hy => ?_, fun j hj hj2 => ?_, by simp; exact h.len⟩
  · simp only [List.mem_append, List.mem_singleton] at hx
    rcases hx with hx | rfl
    · have := h.rise x hx; exact ⟨this.1, this.2.1, by omega⟩
    · exact ⟨hK, hK2, by simp⟩
  · simp only [List.mem_append, List.mem_singleton] at hx
    rcases hx with hx | rfl
    · exact h.bits x hx
    · exact hb
  · simp only [List.mem_append, List.mem_singleton] at hx
    rcases hx with hx | rfl
    · exact h.max x hx
    · exact hm
  · have r := h.rise y hy
    rcases h0 with h0 | h0
    · omega
    · simp only []
      rcases Nat.lt_or_ge y.2 (i - 1) with g | g
      · omega
      · have := h.bits y hy (i - 1) (by omega) (by omega)
        rw [h0] at this; cases this
  · by_cases e : j = i
    · exact ⟨(i, K), by simp, by simp; omega, by simp; omega⟩
    · obtain ⟨x, hx, g⟩ := h.cov j (by omega) hj2
      exact ⟨x, List.mem_append_left _ hx, g⟩
theorem Rl.all {N : Nat} {L : List (Nat × Nat)} (hN : N < 2 ^ 256) (h : Rl N 256 L) : L = runs N := by
  obtain ⟨r, c, o⟩ := runs_ok hN
  refine one_list _ _ h.chain c (fun x hx => (h.rise x hx).1) (fun x hx => (r x hx).1) fun i => ?_
  rw [← tb_orl (runs N), o]
  constructor
  · rintro ⟨x, hx, g⟩
    exact h.bits x hx i g.1 g.2
  · intro g
    exact h.cov i (out_of hN g) g
end Go.Proofs.YtdociniomegpnaaDoor.CRunsQ
