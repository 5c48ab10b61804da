/- cert.Add: what it answers, for any tokens. -/
import Derived.Test.YtdlgceepanegdaaDoorHAppd
namespace Go.Proofs.YtdlgceepanegdaaDoor.HAppC
open Go.RowKit HShow HAppd Go.Proofs.YtdlgceepanegdaaDoorW.PrintWords Go.Proofs.YtdlgceepanegdaaDoorW.PrintLast Go.Proofs.YtdlgceepanegdaaDoorW.PrintMore
set_option linter.unusedVariables false
set_option linter.unusedSimpArgs false
/-- t behind L -/
def add (L : List (Int × Int)) (t : Int × Int) : List (Int × Int) :=
  match L.getLast? with
  | none => [t]
  | some p => if t.1 = 0 ∧ p.1 = 0 ∧ skp t.2 = true ∧ skp p.2 = true ∧ skp (wrap64 (t.2 + p.2)) = true then L.dropLast ++ [(p.1, wrap64 (p.2 + t.2))] else L ++ [t]
theorem add_nil (t : Int × Int) : add [] t = [t] := rfl
theorem add_snoc (M : List (Int × Int)) (p t : Int × Int) : add (M ++ [p]) t = if t.1 = 0 ∧ p.1 = 0 ∧ skp t.2 = true ∧ skp p.2 = true ∧ skp (wrap64 (t.2 + p.2)) = true then M ++ [(p.1, wrap64 (p.2 + t.2))] else (M ++ [p]) ++ [t] := by
  unfold add
  rw [List.getLast?_concat, List.dropLast_concat]
theorem beq_f {x : Int} (h : ¬ x = 0) : (x == 0) = false := by simp [h]
theorem beq_t {x : Int} (h : x = 0) : (x == 0) = true := by simp [h]
theorem add_calls (A : Option Addr) (c : Nat) (L : List (Int × Int)) (t1 t2 : Int) (n : Nat) (hn : L.length = n) (hn2 : n ≤ 1000) (w : World)
    (hA : 0 < n → ∃ ad, A = some ad ∧ ∀ (j : Nat) u, (cl L)[j]? = some u → w.cell? (ad.add j) = some u) :
    Calls Tryd.prog 9 #[.slice A n c, .agg #[.int .i64 t1, .int .i64 t2]] w fun e w' => (∃ v, e = .returned v ∧ w'.ownsRow w.heap.size 24 2 v (add L (t1, t2)).length (cl (add L (t1, t2)))) ∧ Below w.heap.size w w' := by
  rcases List.eq_nil_or_concat L with rfl | ⟨M, p, hLM⟩
  · obtain rfl : n = 0 := hn.symm
    rw [add_nil]
    exact add_0 A c t1 t2 w
  · rw [List.concat_eq_append] at hLM
    subst hLM
    have hl : n = M.length + 1 := by rw [← hn]; simp
    obtain ⟨ad, rfl, hnews⟩ := hA (by omega)
    obtain ⟨p1, p2⟩ := p
    rw [add_snoc]
    have app : ∀ (h : ¬ (t1 = 0 ∧ p1 = 0 ∧ skp t2 = true ∧ skp p2 = true ∧ skp (wrap64 (t2 + p2)) = true)), (Calls Tryd.prog 9 #[.slice (some ad) n c, .agg #[.int .i64 t1, .int .i64 t2]] w fun e w' => (∃ v, e = .returned v ∧ w'.ownsRow w.heap.size 24 2 v (n + 1) (cl (M ++ [(p1, p2)]) ++ [.int .i64 t1, .int .i64 t2])) ∧ Below w.heap.size w w') := fun h => by
      by_cases h1 : t1 = 0
      · by_cases h2 : p1 = 0
        · cases h3 : skp t2
          · exact add_3 ad c M p1 p2 t1 t2 M.length n rfl hl hn2 (beq_t h1) (beq_t h2) h3 w hnews
          · cases h4 : skp p2
            · exact add_4 ad c M p1 p2 t1 t2 M.length n rfl hl hn2 (beq_t h1) (beq_t h2) h3 h4 w hnews
            · cases h5 : skp (wrap64 (t2 + p2))
              · exact add_5 ad c M p1 p2 t1 t2 M.length n rfl hl hn2 (beq_t h1) (beq_t h2) h3 h4 h5 w hnews
              · exact absurd ⟨h1, h2, h3, h4, h5⟩ h
        · exact add_2 ad c M p1 p2 t1 t2 M.length n rfl hl hn2 (beq_t h1) (beq_f h2) w hnews
      · exact add_1 ad c M p1 p2 t1 t2 M.length n rfl hl hn2 (beq_f h1) w hnews
    by_cases h : t1 = 0 ∧ p1 = 0 ∧ skp t2 = true ∧ skp p2 = true ∧ skp (wrap64 (t2 + p2)) = true
    · rw [if_pos h]
      have h6 := add_6 ad c M p1 p2 t1 t2 M.length n rfl hl hn2 (beq_t h.1) (beq_t h.2.1) h.2.2.1 h.2.2.2.1 h.2.2.2.2 w hnews
      rw [cl_put] at h6
      rw [show (M ++ [(p1, wrap64 (p2 + t2))]).length = n by rw [List.length_append, hl]; rfl]
      exact h6
    · rw [if_neg h, cl_snoc (M ++ [(p1, p2)]) (t1, t2), show ((M ++ [(p1, p2)]) ++ [(t1, t2)]).length = n + 1 by rw [List.length_append, List.length_append, hl]; rfl]
      exact app h
theorem cl_cons (p : Int × Int) (L : List (Int × Int)) : cl (p :: L) = .int .i64 p.1 :: .int .i64 p.2 :: cl L := rfl
theorem cl_cells (L : List (Int × Int)) (q : Nat) (p : Int × Int) (h : L[q]? = some p) : (cl L)[q * 2]? = some (.int .i64 p.1) ∧ (cl L)[q * 2 + 1]? = some (.int .i64 p.2) := by
  induction L generalizing q with
  | nil => simp at h
  | cons a L ih =>
    rw [cl_cons]
    cases q with
    | zero =>
      obtain rfl : a = p := by simpa using h
      exact ⟨rfl, rfl⟩
    | succ q =>
      have h1 := ih q (by simpa using h)
      rw [show (q + 1) * 2 = q * 2 + 1 + 1 by omega]
      exact h1
theorem cl_cut (L : List (Int × Int)) (q : Nat) (p : Int × Int) (h : L[q]? = some p) : ((cl L).drop (q * 2)).take 2 = [.int .i64 p.1, .int .i64 p.2] := by
  induction L generalizing q with
  | nil => simp at h
  | cons a L ih =>
    rw [cl_cons]
    cases q with
    | zero =>
      obtain rfl : a = p := by simpa using h
      rfl
    | succ q =>
      rw [show (q + 1) * 2 = q * 2 + 1 + 1 by omega, List.drop_succ_cons, List.drop_succ_cons]
      exact ih q (by simpa using h)
/-- the cells at an address, from those of each token -/
theorem cl_read {w : World} {ad : Addr} {L : List (Int × Int)} (h : ∀ q p, L[q]? = some p → w.cell? (ad.add (q * 2)) = some (.int .i64 p.1) ∧ w.cell? (ad.add (q * 2 + 1)) = some (.int .i64 p.2)) (j : Nat) (u : Value) (hj : (cl L)[j]? = some u) : w.cell? (ad.add j) = some u := by
  have hl : j < L.length * 2 := by rw [← cl_length]; exact (List.getElem?_eq_some_iff.1 hj).1
  have hq : L[j / 2]? = some (L[j / 2]'(by omega)) := List.getElem?_eq_getElem (by omega)
  obtain ⟨c0, c1⟩ := cl_cells L (j / 2) _ hq
  obtain ⟨h0, h1⟩ := h (j / 2) _ hq
  rcases Nat.mod_two_eq_zero_or_one j with e | e
  · rw [show j / 2 * 2 = j by omega] at c0 h0
    rw [hj] at c0
    rw [h0, ← c0]
  · rw [show j / 2 * 2 + 1 = j by omega] at c1 h1
    rw [hj] at c1
    rw [h1, ← c1]
end Go.Proofs.YtdlgceepanegdaaDoor.HAppC
