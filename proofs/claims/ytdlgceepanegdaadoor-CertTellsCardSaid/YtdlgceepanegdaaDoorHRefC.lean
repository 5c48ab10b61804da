/- What the document's functions over tokens answer: all as text, one token more; the contracts. -/
import Derived.Test.YtdlgceepanegdaaDoorHRef
import Derived.Test.YtdlgceepanegdaaDoorHAppR
namespace Go.Proofs.YtdlgceepanegdaaDoor.HRefC
open Go.RowKit HAppd HAppC HShow HSpec HCon HRefN HRef Q Go.Proofs.YtdlgceepanegdaaDoorW.PrintWords Go.Proofs.YtdlgceepanegdaaDoorW.PrintLast Go.Proofs.YtdlgceepanegdaaDoorW.PrintMore
set_option linter.unusedVariables false
set_option linter.unusedSimpArgs false
theorem shown_one (t : P) : shown [t] = tb t := by rw [shown_eq]; exact Lib.join_one _ _
theorem shown_snoc (a : P) (A : List P) (t : P) : shown (a :: A ++ [t]) = shown (a :: A) ++ [32] ++ tb t := by
  rw [shown_eq, shown_eq, List.cons_append, List.map_cons, List.map_cons, Lib.join_cons, Lib.join_cons]
  simp [Lib.joinTail]
theorem show_l0 (L : List P) (hL : L.length ≤ 1000) (hI : ∀ x ∈ L, -9223372036854775808 ≤ x.2 ∧ x.2 ≤ 9223372036854775807) : ∀ (B A : List P) (k : Nat), L = A ++ B → 3 * B.length + 60 < k →
    clewref15_Show.l0 k (U L) ⟨(shown A).toArray⟩ (A.length : Int) = some ⟨(shown L).toArray⟩ := by
  intro B
  induction B with
  | nil =>
    intro A k h hk
    obtain ⟨k, rfl⟩ : ∃ j, k = j + 1 := ⟨k - 1, by omega⟩
    rw [List.append_nil] at h
    subst h
    simp only [clewref15_Show.l0]
    rw [if_neg (by rw [U_len]; omega)]
  | cons t B ih =>
    intro A k h hk
    rw [List.length_cons] at hk
    obtain ⟨k, rfl⟩ : ∃ j, k = j + 3 := ⟨k - 3, by omega⟩
    have hl : L.length = A.length + (B.length + 1) := by rw [h]; simp
    have ihn := ih (A ++ [t]) k (by rw [h]; simp) (by omega)
    rw [show (((A ++ [t]).length : Nat) : Int) = ((A.length + 1 : Nat) : Int) by simp, ← wr (by omega)] at ihn
    have hti := hI t (by rw [h]; simp)
    have hA := shown_le A (fun x hx => hI x (by rw [h]; exact List.mem_append_left _ hx))
    have hnum := number_f t.2 hti.1 hti.2 k (by omega)
    have hnl := Go.Lib.itoa_length_le t.2 hti.1 hti.2
    have j1 : ∀ X : List UInt8, X.length ≤ 23001 → clewref15_Show.j1 (k + 2) (U L) ⟨X.toArray⟩ (A.length : Int) = clewref15_Show.l0 k (U L) ⟨(X ++ tb t).toArray⟩ (wrap64 ((A.length : Int) + 1)) := by
      intro X hX
      simp only [clewref15_Show.j1]
      rw [if_pos (by omega), if_pos (by rw [U_len]; omega), rdU h]
      simp only []
      have hbad : ∀ (hb : t.1 < 0 ∨ 5 < t.1), tb t = [63] := fun hb => by
        rw [tb_eq, if_neg (by omega), if_neg (by omega)]
        unfold word
        rw [if_neg (by omega), if_neg (by omega), if_neg (by omega), if_neg (by omega), if_neg (by omega), if_neg (by omega)]
      have hbj : ∀ (hb : t.1 < 0 ∨ 5 < t.1), clewref15_Show.j2 (k + 1) (U L) ⟨X.toArray⟩ (A.length : Int) t.1 true = clewref15_Show.l0 k (U L) ⟨(X ++ tb t).toArray⟩ (wrap64 ((A.length : Int) + 1)) := fun hb => by
        simp only [clewref15_Show.j2]
        rw [if_pos trivial, if_pos (by rw [bsize]; omega), if_neg (by omega), if_neg (by omega), hbad hb, ← bapp]
      by_cases q1 : t.1 < 0
      · rw [if_pos q1, hbj (.inl q1)]
      · rw [if_neg q1]
        by_cases q2 : t.1 > 5
        · rw [decide_eq_true q2, hbj (.inr q2)]
        · rw [decide_eq_false q2]
          simp only [clewref15_Show.j2]
          rw [if_neg (by decide)]
          simp only [Option.bind_some]
          rw [rdU h]
          simp only []
          rw [hnum]
          simp only [Option.bind_some]
          have hAl : (A.length : Int) < ((U L).length : Int) := by rw [U_len]; omega
          have hA0 : (0 : Int) ≤ (A.length : Int) := by omega
          obtain ⟨t1, t2⟩ := t
          simp only [] at q1 q2 hnl ⊢
          have hc : t1 = 0 ∨ t1 = 1 ∨ t1 = 2 ∨ t1 = 3 ∨ t1 = 4 ∨ t1 = 5 := by omega
          rw [tb_eq]
          simp only []
          rcases hc with rfl | rfl | rfl | rfl | rfl | rfl
          · rw [if_pos (by decide), if_pos (by decide), if_pos (by rw [bsize]; show _ + 1 ≤ _; omega), if_pos rfl, if_pos hA0, if_pos hAl, if_pos (by have hb1 := bsize X; have hb2 := bsize (Lib.itoa t2); rw [ByteArray.size_append, hb1, hb2]; show X.length + 1 + (Lib.itoa t2).length ≤ _; omega), if_pos rfl]
            rw [show rdOf ByteArray.empty [(⟨#[115]⟩ : ByteArray), ⟨#[116]⟩, ⟨#[49]⟩, ⟨#[50]⟩, ⟨#[109]⟩, ⟨#[114]⟩] 0 = ⟨([115] : List UInt8).toArray⟩ from rfl, bapp, bapp]
            simp
          · rw [if_pos (by decide), if_pos (by decide), if_pos (by rw [bsize]; show _ + 1 ≤ _; omega), if_neg (by decide), if_neg (by decide), if_neg (by decide), if_neg (by decide)]
            rw [show rdOf ByteArray.empty [(⟨#[115]⟩ : ByteArray), ⟨#[116]⟩, ⟨#[49]⟩, ⟨#[50]⟩, ⟨#[109]⟩, ⟨#[114]⟩] 1 = ⟨([116] : List UInt8).toArray⟩ from rfl, bapp]
            rfl
          · rw [if_pos (by decide), if_pos (by decide), if_pos (by rw [bsize]; show _ + 1 ≤ _; omega), if_neg (by decide), if_neg (by decide), if_neg (by decide), if_neg (by decide)]
            rw [show rdOf ByteArray.empty [(⟨#[115]⟩ : ByteArray), ⟨#[116]⟩, ⟨#[49]⟩, ⟨#[50]⟩, ⟨#[109]⟩, ⟨#[114]⟩] 2 = ⟨([49] : List UInt8).toArray⟩ from rfl, bapp]
            rfl
          · rw [if_pos (by decide), if_pos (by decide), if_pos (by rw [bsize]; show _ + 1 ≤ _; omega), if_neg (by decide), if_neg (by decide), if_neg (by decide), if_neg (by decide)]
            rw [show rdOf ByteArray.empty [(⟨#[115]⟩ : ByteArray), ⟨#[116]⟩, ⟨#[49]⟩, ⟨#[50]⟩, ⟨#[109]⟩, ⟨#[114]⟩] 3 = ⟨([50] : List UInt8).toArray⟩ from rfl, bapp]
            rfl
          · rw [if_pos (by decide), if_pos (by decide), if_pos (by rw [bsize]; show _ + 1 ≤ _; omega), if_neg (by decide), if_neg (by decide), if_neg (by decide), if_neg (by decide)]
            rw [show rdOf ByteArray.empty [(⟨#[115]⟩ : ByteArray), ⟨#[116]⟩, ⟨#[49]⟩, ⟨#[50]⟩, ⟨#[109]⟩, ⟨#[114]⟩] 4 = ⟨([109] : List UInt8).toArray⟩ from rfl, bapp]
            rfl
          · rw [if_pos (by decide), if_pos (by decide), if_pos (by rw [bsize]; show _ + 1 ≤ _; omega), if_neg (by decide), if_pos rfl, if_pos hA0, if_pos hAl, if_pos (by have hb1 := bsize X; have hb2 := bsize (Lib.itoa t2); rw [ByteArray.size_append, hb1, hb2]; show X.length + 1 + (Lib.itoa t2).length ≤ _; omega), if_neg (by decide), if_pos rfl]
            rw [show rdOf ByteArray.empty [(⟨#[115]⟩ : ByteArray), ⟨#[116]⟩, ⟨#[49]⟩, ⟨#[50]⟩, ⟨#[109]⟩, ⟨#[114]⟩] 5 = ⟨([114] : List UInt8).toArray⟩ from rfl, bapp, bapp]
            simp
    simp only [clewref15_Show.l0]
    rw [if_pos (by rw [U_len]; omega)]
    cases A with
    | nil =>
      rw [if_neg (by simp), show shown [] = [] from rfl, j1 [] (by simp), List.nil_append]
      rw [List.nil_append, shown_one] at ihn
      exact ihn
    | cons a A =>
      rw [if_pos (by rw [List.length_cons]; omega), if_pos (by rw [bsize]; omega), show (⟨#[32]⟩ : ByteArray) = ⟨([32] : List UInt8).toArray⟩ from rfl, bapp, j1 _ (by rw [List.length_append]; simp at hA hl ⊢; omega), ← shown_snoc]
      exact ihn
theorem show_f (L : List P) (hL : L.length ≤ 1000) (hI : ∀ x ∈ L, -9223372036854775808 ≤ x.2 ∧ x.2 ≤ 9223372036854775807) : clewref15_Show.f 3100 (U L) = some ⟨(shown L).toArray⟩ :=
  show_l0 L hL hI L [] 3100 rfl (by omega)
set_option maxHeartbeats 1000000 in
theorem addR_calls (A : Option Addr) (c : Nat) (L : List (Int × Int)) (t1 t2 : Int) (n : Nat) (hn : L.length = n) (hn2 : n ≤ 1000) (w : World)
    (hA : 0 < n → ∃ ad, A = some ad ∧ ∀ (j : Nat) u, (cl L)[j]? = some u → w.cell? (ad.add j) = some u) :
    Calls Tryd.prog 19 #[.slice A n c, .agg #[.int .i64 t1, .int .i64 t2]] w fun e w' => (∃ v, e = .returned v ∧ w'.ownsRow w.heap.size 36 2 v (add L (t1, t2)).length (cl (add L (t1, t2)))) ∧ Below w.heap.size w w' := by
  rcases List.eq_nil_or_concat L with rfl | ⟨M, p, hLM⟩
  · obtain rfl : n = 0 := hn.symm
    rw [add_nil]
    exact HAppR.add_0 A c t1 t2 w
  · rw [List.concat_eq_append] at hLM
    subst hLM
    have hl : n = M.length + 1 := by rw [← hn]; simp
    obtain ⟨ad, rfl, hnews⟩ := hA (by omega)
    obtain ⟨p1, p2⟩ := p
    rw [add_snoc]
    have app : ∀ (h : ¬ (t1 = 0 ∧ p1 = 0 ∧ skp t2 = true ∧ skp p2 = true ∧ skp (wrap64 (t2 + p2)) = true)), (Calls Tryd.prog 19 #[.slice (some ad) n c, .agg #[.int .i64 t1, .int .i64 t2]] w fun e w' => (∃ v, e = .returned v ∧ w'.ownsRow w.heap.size 36 2 v (n + 1) (cl (M ++ [(p1, p2)]) ++ [.int .i64 t1, .int .i64 t2])) ∧ Below w.heap.size w w') := fun h => by
      by_cases h1 : t1 = 0
      · by_cases h2 : p1 = 0
        · cases h3 : skp t2
          · exact HAppR.add_3 ad c M p1 p2 t1 t2 M.length n rfl hl hn2 (beq_t h1) (beq_t h2) h3 w hnews
          · cases h4 : skp p2
            · exact HAppR.add_4 ad c M p1 p2 t1 t2 M.length n rfl hl hn2 (beq_t h1) (beq_t h2) h3 h4 w hnews
            · cases h5 : skp (wrap64 (t2 + p2))
              · exact HAppR.add_5 ad c M p1 p2 t1 t2 M.length n rfl hl hn2 (beq_t h1) (beq_t h2) h3 h4 h5 w hnews
              · exact absurd ⟨h1, h2, h3, h4, h5⟩ h
        · exact HAppR.add_2 ad c M p1 p2 t1 t2 M.length n rfl hl hn2 (beq_t h1) (beq_f h2) w hnews
      · exact HAppR.add_1 ad c M p1 p2 t1 t2 M.length n rfl hl hn2 (beq_f h1) w hnews
    by_cases h : t1 = 0 ∧ p1 = 0 ∧ skp t2 = true ∧ skp p2 = true ∧ skp (wrap64 (t2 + p2)) = true
    · rw [if_pos h]
      have h6 := HAppR.add_6 ad c M p1 p2 t1 t2 M.length n rfl hl hn2 (beq_t h.1) (beq_t h.2.1) h.2.2.1 h.2.2.2.1 h.2.2.2.2 w hnews
      rw [cl_put] at h6
      rw [show (M ++ [(p1, wrap64 (p2 + t2))]).length = n by rw [List.length_append, hl]; rfl]
      exact h6
    · rw [if_neg h, cl_snoc (M ++ [(p1, p2)]) (t1, t2), show ((M ++ [(p1, p2)]) ++ [(t1, t2)]).length = n + 1 by rw [List.length_append, List.length_append, hl]; rfl]
      exact app h

section
variable {w : World} {A : Option Addr} {L : List P} (h : Ro w A L) {n c : Nat} (hn : L.length = n) (hl : n ≤ 1000) (hc : n ≤ c)
include h hn hl hc
theorem r_right : Calls Tryd.prog 11 #[.slice A n c] w fun e w' => e = .returned (.bool (right L)) ∧ Below w.heap.size w w' := by
  subst hn
  have := clewref15_Right.calls 5001 A c (U L) (right L) w (h.c36 hl) (by rw [U_len]; exact hc) (HRef.right_f L hl)
  rw [U_len] at this
  exact this
theorem r_marks : Calls Tryd.prog 13 #[.slice A n c] w fun e w' => e = .returned (.int .i64 (marks L)) ∧ Below w.heap.size w w' := by
  subst hn
  have := clewref15_Marks.calls 1001 A c (U L) (marks L) w (h.c36 hl) (by rw [U_len]; exact hc) (HRef.marks_f L hl)
  rw [U_len] at this
  exact this.mono fun e w' hx => ⟨hx.1, hx.2.below⟩
theorem r_places : Calls Tryd.prog 15 #[.slice A n c] w fun e w' => e = .returned (.int .i64 (places L)) ∧ Below w.heap.size w w' := by
  subst hn
  have := clewref15_Places.calls 1001 A c (U L) (places L) w (h.c36 hl) (by rw [U_len]; exact hc) (HRef.places_f L hl)
  rw [U_len] at this
  exact this.mono fun e w' hx => ⟨hx.1, hx.2.below⟩
theorem r_show (hI : ∀ x ∈ L, -9223372036854775808 ≤ x.2 ∧ x.2 ≤ 9223372036854775807) : Calls Tryd.prog 17 #[.slice A n c] w fun e w' => e = .returned (.string ⟨(shown L).toArray⟩) ∧ Below w.heap.size w w' := by
  subst hn
  have := clewref15_Show.calls 3100 A c (U L) _ w (h.c36 hl) (by rw [U_len]; exact hc) (show_f L hl hI)
  rw [U_len] at this
  exact this
theorem r_add (t1 t2 : Int) : Calls Tryd.prog 19 #[.slice A n c, .agg #[.int .i64 t1, .int .i64 t2]] w fun e w' => (∃ B d, e = .returned (.slice B (add L (t1, t2)).length d) ∧ (add L (t1, t2)).length ≤ d ∧ Ro w' B (add L (t1, t2))) ∧ Below w.heap.size w w' := by
  subst hn
  have := addR_calls A c L t1 t2 L.length rfl hl w (fun h0 => by
    obtain ⟨ad, e, hx⟩ := h h0
    exact ⟨ad, e, fun j u hj => cl_read hx j u hj⟩)
  refine this.mono ?_
  rintro e w' ⟨⟨v, rfl, ho⟩, hb⟩
  refine ⟨?_, hb⟩
  rcases ho.2 with ⟨q2, q3⟩ | ⟨g, cap, cur, q2, q3, q4, q5, q6, q7, q8⟩
  · have h0 : (add L (t1, t2)) = [] := List.length_eq_zero_iff.1 q3
    rw [h0] at *
    exact ⟨none, 0, by rw [q2]; rfl, by simp, Ro.nil _ _⟩
  · refine ⟨some ⟨g, 0, none⟩, cap, by rw [q2], q5, fun _ => ⟨_, rfl, fun q p hq => ?_⟩⟩
    obtain ⟨c0, c1⟩ := cl_cells _ q p hq
    have hql : q < (add L (t1, t2)).length := (List.getElem?_eq_some_iff.1 hq).1
    subst q2
    have e0 := ho.cellAt (q * 2) (by omega)
    have e1 := ho.cellAt (q * 2 + 1) (by omega)
    rw [c0] at e0
    rw [c1] at e1
    exact ⟨by rw [Go.Lib.add_plain, Nat.zero_add]; exact e0, by rw [Go.Lib.add_plain, Nat.zero_add]; exact e1⟩
end
end Go.Proofs.YtdlgceepanegdaaDoor.HRefC
