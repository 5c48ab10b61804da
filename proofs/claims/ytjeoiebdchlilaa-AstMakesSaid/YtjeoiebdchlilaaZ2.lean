import Derived.Test.YtjeoiebdchlilaaZ1
import Derived.Test.YtjeoiebdchlilaaDCut
import Derived.Test.YtjeoiebdchlilaaQ18
section
/- Contracts on trees: the program's and the document's. -/
namespace Go.Proofs.Ytjeoiebdchlilaa.DTree
open Go.RowKit CMem DRow DDeep DSizes DFits DLens DSpec DGrp DCon DOdd DRowN DWrap DJoin DGrouped DRight DRJoin DRFits DRef DRefB DCut Q Go.Proofs.YtjeoiebdchlilaaW.PrintWords
set_option linter.unusedVariables false
set_option linter.unusedSimpArgs false
theorem rright_calls (A : Option Addr) (c : Nat) (L : List S43) (n : Nat) (hn : L.length = n) (hn2 : n ≤ 500) (hc : n ≤ c) (w : World) (hr : Kd.C k50 w A n (L.map od)) :
    Calls Try.prog 15 #[.slice A n c] w fun e w' => e = .returned (.int .i64 (rgt L)) ∧ Below w.heap.size w w' := by
  have hl : (L.map od).length = n := by rw [List.length_map, hn]
  have h := clewref05_Right.calls (6 * L.length + 20) A c (L.map od) (rgt L) w (by rw [hl]; exact hr) (by rw [hl]; exact hc) (rightr_f L (by omega) _ (Nat.le_refl _))
  rw [hl] at h
  exact h.mono fun e w' hh => ⟨hh.1, by first | exact hh.2 | exact hh.2.below⟩
theorem rdeep_calls (A : Option Addr) (c : Nat) (L : List S43) (n : Nat) (hn : L.length = n) (hn2 : n ≤ 500) (hc : n ≤ c) (w : World) (hr : Kd.C k50 w A n (L.map od)) :
    Calls Try.prog 17 #[.slice A n c] w fun e w' => e = .returned (.int .i64 (dep L)) ∧ Below w.heap.size w w' := by
  have hl : (L.map od).length = n := by rw [List.length_map, hn]
  have h := clewref05_Deep.calls (6 * L.length + 20) A c (L.map od) (dep L) w (by rw [hl]; exact hr) (by rw [hl]; exact hc) (deepr_f L (by omega) _ (by omega))
  rw [hl] at h
  exact h.mono fun e w' hh => ⟨hh.1, by first | exact hh.2 | exact hh.2.below⟩
theorem rlen_calls (A : Option Addr) (c : Nat) (L : List S43) (n : Nat) (hn : L.length = n) (hn2 : n ≤ 500) (hc : n ≤ c) (i : Int) (w : World) (hr : Kd.C k50 w A n (L.map od)) :
    Calls Try.prog 13 #[.slice A n c, .int .i64 i] w fun e w' => e = .returned (.tuple #[.int .i64 (lenr L i).1, .int .i64 (lenr L i).2.1, .int .i64 (lenr L i).2.2]) ∧ Below w.heap.size w w' := by
  have hl : (L.map od).length = n := by rw [List.length_map, hn]
  have h := clewref05_Len.calls (6 * L.length + 20) A c (L.map od) i (lenr L i).1 (lenr L i).2.1 (lenr L i).2.2 w (by rw [hl]; exact hr) (by rw [hl]; exact hc) (lenr_f L (by omega) i _ (by omega))
  rw [hl] at h
  exact h.mono fun e w' hh => ⟨hh.1, by first | exact hh.2 | exact hh.2.below⟩
/-- how many groups there are -/
def grn (L : List S43) : Int := ((gall L).length : Int)
theorem gall_upto (L : List S43) (i : Nat) : ((List.range (i + 1)).filter fun j : Nat => (rd_T43 L (j : Nat)).f0 == 11).length = ((List.range i).filter fun j : Nat => (rd_T43 L (j : Nat)).f0 == 11).length + (if (rd_T43 L i).f0 = 11 then 1 else 0) := by
  rw [List.range_succ, List.filter_append, List.length_append]
  congr 1
  by_cases h : (rd_T43 L i).f0 = 11
  · simp [h]
  · simp [h]
theorem gcount_le (L : List S43) (i : Nat) : ((List.range i).filter fun j : Nat => (rd_T43 L (j : Nat)).f0 == 11).length ≤ i := Nat.le_trans (List.length_filter_le _ _) (by simp)
theorem groups_f (L : List S43) (hn2 : L.length ≤ 1000) : ∀ (d j : Nat), j + d = L.length → ∀ k, d + 1 ≤ k → ast_Groups.l0 k (((List.range j).filter fun m : Nat => (rd_T43 L (m : Nat)).f0 == 11).length : Nat) L (L.length : Int) j = some (grn L)
  | 0, j, hj, k, hk => by
    obtain ⟨q, rfl⟩ : ∃ q, k = q + 1 := ⟨k - 1, by omega⟩
    obtain rfl : j = L.length := by omega
    rw [ast_Groups.l0, if_neg (by omega)]
    rfl
  | d + 1, j, hj, k, hk => by
    obtain ⟨q, rfl⟩ : ∃ q, k = q + 1 := ⟨k - 1, by omega⟩
    have hq : d + 1 ≤ q := by omega
    have ih := groups_f L hn2 d (j + 1) (by omega) q hq
    have hg := gall_upto L j
    have hl := gcount_le L j
    generalize ((List.range j).filter fun m : Nat => (rd_T43 L (m : Nat)).f0 == 11).length = c at *
    have w1 : wrap64 ((j : Int) + 1) = ((j + 1 : Nat) : Int) := by unfold wrap64; omega
    have w2 : wrap64 ((c : Int) + 1) = ((c + 1 : Nat) : Int) := by unfold wrap64; omega
    rw [ast_Groups.l0, if_pos (by omega), if_pos (by omega), if_pos (by omega), w1, w2]
    by_cases h : (rd_T43 L j).f0 = 11
    · rw [if_pos h] at hg
      rw [if_pos h, ← ih, hg]
    · rw [if_neg h] at hg
      rw [if_neg h, ← ih, hg]
      rfl
theorem groups_calls (A : Option Addr) (c : Nat) (L : List S43) (n : Nat) (hn : L.length = n) (hn2 : n ≤ 1000) (hc : n ≤ c) (w : World) (hr : Kd.C k43 w A n L) :
    Calls Try.prog 18 #[.agg #[.slice A n c]] w fun e w' => e = .returned (.int .i64 (grn L)) ∧ Below w.heap.size w w' := by
  subst hn
  have h := groups_f L hn2 L.length 0 (by omega) (L.length + 1) (Nat.le_refl _)
  exact (ast_Groups.calls (L.length + 1) A c L (grn L) w hr hc h).mono fun e w' hh => ⟨hh.1, by first | exact hh.2 | exact hh.2.below⟩
theorem rgroups_f (L : List S43) (hn2 : L.length ≤ 1000) : ∀ (d j : Nat), j + d = L.length → ∀ k, d + 1 ≤ k → clewref05_Groups.l0 k (L.map od) (((List.range j).filter fun m : Nat => (rd_T43 L (m : Nat)).f0 == 11).length : Nat) j = some (grn L)
  | 0, j, hj, k, hk => by
    obtain ⟨q, rfl⟩ : ∃ q, k = q + 1 := ⟨k - 1, by omega⟩
    obtain rfl : j = L.length := by omega
    rw [clewref05_Groups.l0, List.length_map, if_neg (by omega)]
    rfl
  | d + 1, j, hj, k, hk => by
    obtain ⟨q, rfl⟩ : ∃ q, k = q + 1 := ⟨k - 1, by omega⟩
    have hq : d + 1 ≤ q := by omega
    have hjl : j < L.length := by omega
    have ih := rgroups_f L hn2 d (j + 1) (by omega) q hq
    have hg := gall_upto L j
    have hl := gcount_le L j
    have e0 : (od (rd_T43 L j)).f0 = (rd_T43 L j).f0 := rfl
    generalize ((List.range j).filter fun m : Nat => (rd_T43 L (m : Nat)).f0 == 11).length = c at *
    have w1 : wrap64 ((j : Int) + 1) = ((j + 1 : Nat) : Int) := by unfold wrap64; omega
    have w2 : wrap64 ((c : Int) + 1) = ((c + 1 : Nat) : Int) := by unfold wrap64; omega
    rw [clewref05_Groups.l0, List.length_map, if_pos (by omega), if_pos (by omega), rd_one L j hjl, e0, w1, w2]
    by_cases h : (rd_T43 L j).f0 = 11
    · rw [if_pos h] at hg
      rw [if_pos h, ← ih, hg]
    · rw [if_neg h] at hg
      rw [if_neg h, ← ih, hg]
      rfl
theorem rgroups_calls (A : Option Addr) (c : Nat) (L : List S43) (n : Nat) (hn : L.length = n) (hn2 : n ≤ 1000) (hc : n ≤ c) (w : World) (hr : Kd.C k50 w A n (L.map od)) :
    Calls Try.prog 19 #[.slice A n c] w fun e w' => e = .returned (.int .i64 (grn L)) ∧ Below w.heap.size w w' := by
  have hl : (L.map od).length = n := by rw [List.length_map, hn]
  have h := rgroups_f L (by omega) L.length 0 (by omega) (L.length + 1) (Nat.le_refl _)
  have h := clewref05_Groups.calls (L.length + 1) A c (L.map od) (grn L) w (by rw [hl]; exact hr) (by rw [hl]; exact hc) h
  rw [hl] at h
  exact h.mono fun e w' hh => ⟨hh.1, by first | exact hh.2 | exact hh.2.below⟩
/-- a tree for the document -/
theorem ref_f (L : List S43) (hn2 : L.length ≤ 1000) : ∀ (d j : Nat), j + d = L.length → ∀ k, d + 1 ≤ k → clewlaw05_Ref.l0 k ((L.take j).map od) j L = some (L.map od)
  | 0, j, hj, k, hk => by
    obtain ⟨q, rfl⟩ : ∃ q, k = q + 1 := ⟨k - 1, by omega⟩
    rw [clewlaw05_Ref.l0, if_neg (by omega), List.take_of_length_le (by omega)]
  | d + 1, j, hj, k, hk => by
    obtain ⟨q, rfl⟩ : ∃ q, k = q + 1 := ⟨k - 1, by omega⟩
    have hq : d + 1 ≤ q := by omega
    have hjl : j < L.length := by omega
    have ih := ref_f L hn2 d (j + 1) (by omega) q hq
    have w1 : wrap64 ((j : Int) + 1) = ((j + 1 : Nat) : Int) := by unfold wrap64; omega
    have hx : L[j]? = some (rd_T43 L j) := by
      unfold rd_T43
      rw [Int.toNat_natCast, List.getD_eq_getElem?_getD, List.getElem?_eq_getElem hjl]
      rfl
    have ht : (L.take (j + 1)).map od = (L.take j).map od ++ [od (rd_T43 L j)] := by
      rw [List.take_add_one, hx, List.map_append]; rfl
    rw [clewlaw05_Ref.l0, if_pos (by omega), if_pos (by omega), w1]
    unfold clewlaw05_One.f
    rw [Option.bind_some, if_pos (by rw [List.length_map, List.length_take]; omega)]
    rw [ht] at ih
    exact ih
theorem ref_calls (A : Option Addr) (c : Nat) (L : List S43) (n : Nat) (hn : L.length = n) (hn2 : n ≤ 1000) (hc : n ≤ c) (w : World) (hr : Kd.C k43 w A n L) :
    Calls Try.prog 11 #[.agg #[.slice A n c]] w fun e w' => (∃ A2 c2, e = .returned (.slice A2 n c2) ∧ n ≤ c2 ∧ Kd.C k50 w' A2 n (L.map od)) ∧ Below w.heap.size w w' := by
  subst hn
  have h := ref_f L hn2 L.length 0 (by omega) (L.length + 1) (Nat.le_refl _)
  refine (clewlaw05_Ref.calls (L.length + 1) A c L (L.map od) w hr hc h).mono ?_
  rintro e w' ⟨v, rfl, hR, hb⟩
  obtain ⟨A2, c2, rfl, hle, hC⟩ := Kd.R_reads hR
  rw [List.length_map] at hle hC
  exact ⟨⟨A2, c2, by rw [List.length_map], hle, hC⟩, hb⟩
end Go.Proofs.Ytjeoiebdchlilaa.DTree
end
section
/- Contracts of Leaf, Wrap, Join, Same as a law's walk asks them. -/
namespace Go.Proofs.Ytjeoiebdchlilaa.DKit
open Go.RowKit CMem DRow DDeep DSizes DFits DLens DSpec DGrp DCon DOdd DRowN DWrap DJoin DGrouped DRight DRJoin DRFits DRef DRefB DCut DTree Q Go.Proofs.YtjeoiebdchlilaaW.PrintWords
set_option linter.unusedVariables false
set_option linter.unusedSimpArgs false
theorem leaf_tree (k xa xb s0 s1 s2 s3 mi ma mo nn : Int) (fo : Bool) (w : World) :
    Calls Try.prog 23 #[.agg #[.int .i64 k, .int .i64 xa, .int .i64 xb, .int .u64 s0, .int .u64 s1, .int .u64 s2, .int .u64 s3, .int .i64 mi, .int .i64 ma, .int .i64 mo, .int .i64 nn, .bool fo]] w fun e w' =>
      (∃ A c, e = .returned (.agg #[.slice A 1 c]) ∧ 1 ≤ c ∧ Kd.C k43 w' A 1 [⟨k, xa, xb, ⟨⟨s0, s1, s2, s3⟩⟩, mi, ma, mo, nn, fo⟩]) ∧ Below w.heap.size w w' := by
  refine (ast_Leaf.calls k xa xb s0 s1 s2 s3 mi ma mo nn fo _ w rfl).mono ?_
  rintro e w' ⟨v, rfl, hR, hb⟩
  obtain ⟨A, c, rfl, hle, hC⟩ := Kd.R_reads hR
  exact ⟨⟨A, c, rfl, hle, hC⟩, hb⟩
theorem wrap_tree (A : Option Addr) (c : Nat) (L R : List S43) (n q : Nat) (hn : L.length = n) (hn2 : n ≤ 999) (hq : n + 1 = q) (k xa xb s0 s1 s2 s3 mi ma mo nn : Int) (fo : Bool) (hR : L ++ [⟨k, (n : Int) - 1, 0, ⟨⟨s0, s1, s2, s3⟩⟩, mi, ma, mo, nn, fo⟩] = R) (w : World) (hr : Kd.C k43 w A n L) :
    Calls Try.prog 21 #[.agg #[.slice A n c], .agg #[.int .i64 k, .int .i64 xa, .int .i64 xb, .int .u64 s0, .int .u64 s1, .int .u64 s2, .int .u64 s3, .int .i64 mi, .int .i64 ma, .int .i64 mo, .int .i64 nn, .bool fo]] w fun e w' =>
      (∃ A c, e = .returned (.agg #[.slice A q c]) ∧ q ≤ c ∧ Kd.C k43 w' A q R) ∧ Below w.heap.size w w' := by
  subst hR hq
  refine (wrap_calls A c L n hn hn2 k xa xb s0 s1 s2 s3 mi ma mo nn fo w hr).mono ?_
  rintro e w' ⟨⟨v, rfl, ho⟩, hb⟩
  obtain ⟨A2, c2, rfl, hle, hC⟩ := own_C (by simp [hn]) (by omega) ho
  exact ⟨⟨A2, c2, rfl, hle, hC⟩, hb⟩
theorem join_tree (A : Option Addr) (c : Nat) (L M R : List S43) (n m q : Nat) (hn : L.length = n) (A2 : Option Addr) (c2 : Nat) (hm : M.length = m) (hnm : n + m ≤ 999) (hq : n + m + 1 = q) (kind : Int) (hR : L ++ M.map (shift n) ++ [⟨kind, (n : Int) - 1, (n : Int) + m - 1, z41, 0, 0, 0, 0, false⟩] = R) (w : World) (hr : Kd.C k43 w A n L) (hr2 : Kd.C k43 w A2 m M) :
    Calls Try.prog 22 #[.agg #[.slice A n c], .agg #[.slice A2 m c2], .int .i64 kind] w fun e w' =>
      (∃ A c, e = .returned (.agg #[.slice A q c]) ∧ q ≤ c ∧ Kd.C k43 w' A q R) ∧ Below w.heap.size w w' := by
  subst hR hq
  refine (join_calls A c L n hn A2 c2 M m hm hnm kind w hr hr2).mono ?_
  rintro e w' ⟨⟨v, rfl, ho⟩, hb⟩
  obtain ⟨A2, c2, rfl, hle, hC⟩ := own_C (by simp [hn, hm]; omega) (by omega) ho
  exact ⟨⟨A2, c2, rfl, hle, hC⟩, hb⟩
theorem right_tree (A : Option Addr) (c : Nat) (L : List S43) (n : Nat) (r : Int) (hn : L.length = n) (hn2 : n ≤ 500) (hr0 : rgt L = r) (w : World) (hr : Kd.C k43 w A n L) :
    Calls Try.prog 14 #[.agg #[.slice A n c]] w fun e w' => e = .returned (.int .i64 r) ∧ Below w.heap.size w w' := by
  subst hr0; exact right_calls A c L n hn hn2 w hr
theorem deep_tree (A : Option Addr) (c : Nat) (L : List S43) (n : Nat) (r : Int) (hn : L.length = n) (hn2 : n ≤ 500) (hr0 : dep L = r) (w : World) (hr : Kd.C k43 w A n L) :
    Calls Try.prog 16 #[.agg #[.slice A n c]] w fun e w' => e = .returned (.int .i64 r) ∧ Below w.heap.size w w' := by
  subst hr0; exact deep_calls A c L n hn hn2 w hr
theorem groups_tree (A : Option Addr) (c : Nat) (L : List S43) (n : Nat) (r : Int) (hn : L.length = n) (hn2 : n ≤ 500) (hc : n ≤ c) (hr0 : grn L = r) (w : World) (hr : Kd.C k43 w A n L) :
    Calls Try.prog 18 #[.agg #[.slice A n c]] w fun e w' => e = .returned (.int .i64 r) ∧ Below w.heap.size w w' := by
  subst hr0; exact groups_calls A c L n hn (by omega) hc w hr
theorem len_tree (A : Option Addr) (c : Nat) (L : List S43) (n : Nat) (i r1 r2 r3 : Int) (hn : L.length = n) (hn2 : n ≤ 500) (hr0 : lenr L i = (r1, r2, r3)) (w : World) (hr : Kd.C k43 w A n L) :
    Calls Try.prog 12 #[.agg #[.slice A n c], .int .i64 i] w fun e w' => e = .returned (.tuple #[.int .i64 r1, .int .i64 r2, .int .i64 r3]) ∧ Below w.heap.size w w' := by
  have h := len_calls A c L n hn hn2 i w hr
  rw [hr0] at h
  exact h
/-- whether two trees are alike -/
def eqn (x y : S43) : Bool := x.f0 == y.f0 && (x.f1 == y.f1 && (x.f2 == y.f2 && ((x.f3.f0.f0 == y.f3.f0.f0 && (x.f3.f0.f1 == y.f3.f0.f1 && (x.f3.f0.f2 == y.f3.f0.f2 && x.f3.f0.f3 == y.f3.f0.f3))) && (x.f4 == y.f4 && (x.f5 == y.f5 && (x.f6 == y.f6 && (x.f7 == y.f7 && x.f8 == y.f8)))))))
theorem eqn_iff (x y : S43) : eqn x y = true ↔ x = y := by
  obtain ⟨a0, a1, a2, ⟨⟨a3, a4, a5, a6⟩⟩, a7, a8, a9, a10, a11⟩ := x
  obtain ⟨b0, b1, b2, ⟨⟨b3, b4, b5, b6⟩⟩, b7, b8, b9, b10, b11⟩ := y
  unfold eqn
  simp only [Bool.and_eq_true, beq_iff_eq, S43.mk.injEq, S41.mk.injEq, S39.mk.injEq]
def sameb : List S43 → List S43 → Bool
  | [], [] => true
  | x :: xs, y :: ys => eqn x y && sameb xs ys
  | _, _ => false
theorem sameb_iff : ∀ xs ys : List S43, sameb xs ys = true ↔ xs = ys
  | [], [] => by simp [sameb]
  | [], y :: ys => by simp [sameb]
  | x :: xs, [] => by simp [sameb]
  | x :: xs, y :: ys => by rw [sameb, Bool.and_eq_true, eqn_iff, sameb_iff xs ys, List.cons.injEq]
theorem rd_get (L : List S43) (i : Nat) (h : i < L.length) : rd_T43 L i = L[i]'h := by
  unfold rd_T43
  rw [Int.toNat_natCast, List.getD_eq_getElem?_getD, List.getElem?_eq_getElem h]
  rfl
theorem sameb_drop (L M : List S43) (h : L.length = M.length) (j : Nat) (hj : j < L.length) : sameb (L.drop j) (M.drop j) = (eqn (rd_T43 L j) (rd_T43 M j) && sameb (L.drop (j + 1)) (M.drop (j + 1))) := by
  have hj2 : j < M.length := by omega
  have e1 : L.drop j = L[j]'hj :: L.drop (j + 1) := List.drop_eq_getElem_cons hj
  have e2 : M.drop j = M[j]'hj2 :: M.drop (j + 1) := List.drop_eq_getElem_cons hj2
  rw [e1, e2, sameb, rd_get L j hj, rd_get M j hj2]
theorem same_f (L M : List S43) (h : L.length = M.length) (hn2 : L.length ≤ 1000) : ∀ (d j : Nat), j + d = L.length → ∀ k, d + 1 ≤ k → ast_Node.l0 k L M (L.length : Int) j = some (sameb (L.drop j) (M.drop j))
  | 0, j, hj, k, hk => by
    obtain ⟨q, rfl⟩ : ∃ q, k = q + 1 := ⟨k - 1, by omega⟩
    rw [ast_Node.l0, if_neg (by omega), List.drop_eq_nil_of_le (by omega), List.drop_eq_nil_of_le (by omega)]
    rfl
  | d + 1, j, hj, k, hk => by
    obtain ⟨q, rfl⟩ : ∃ q, k = q + 1 := ⟨k - 1, by omega⟩
    have hq : d + 1 ≤ q := by omega
    have hjl : j < L.length := by omega
    have ih := same_f L M h hn2 d (j + 1) (by omega) q hq
    have w1 : wrap64 ((j : Int) + 1) = ((j + 1 : Nat) : Int) := by unfold wrap64; omega
    rw [sameb_drop L M h j hjl, ast_Node.l0, if_pos (by omega), if_pos (by omega), if_pos (by omega), if_pos (by omega), w1, ih]
    unfold eqn
    split
    · rename_i hh
      simp only [Bool.or_eq_true, Bool.not_eq_true'] at hh
      rcases hh with h | h | h | (h | h | h | h) | h | h | h | h | h <;> simp [h]
    · rename_i hh
      simp only [Bool.or_eq_true, Bool.not_eq_true', not_or, Bool.not_eq_false] at hh
      obtain ⟨h0, h1, h2, ⟨h3, h4, h5, h6⟩, h7, h8, h9, h10, h11⟩ := hh
      simp [h0, h1, h2, h3, h4, h5, h6, h7, h8, h9, h10, h11]
theorem same_tree (A : Option Addr) (c : Nat) (L : List S43) (n : Nat) (A2 : Option Addr) (c2 : Nat) (M : List S43) (m : Nat) (r : Bool) (hn : L.length = n) (hm : M.length = m) (hn2 : n ≤ 500) (hc : n ≤ c) (hc2 : m ≤ c2) (hr0 : sameb L M = r) (w : World) (hr : Kd.C k43 w A n L) (hr2 : Kd.C k43 w A2 m M) :
    Calls Try.prog 28 #[.agg #[.slice A n c], .agg #[.slice A2 m c2]] w fun e w' => e = .returned (.bool r) ∧ Below w.heap.size w w' := by
  subst hn hm hr0
  have hf : ast_Same.f (L.length + 1) L M = some (sameb L M) := by
    unfold ast_Same.f ast_Node.f
    by_cases h : L.length = M.length
    · have := same_f L M h (by omega) L.length 0 (by omega) (L.length + 1) (Nat.le_refl _)
      rw [if_pos (by omega)]
      rw [show ((0 : Nat) : Int) = 0 from rfl] at this
      rw [this]; rfl
    · have hs : sameb L M = false := by
        cases hc : sameb L M
        · rfl
        · exact absurd (congrArg List.length ((sameb_iff L M).1 hc)) h
      rw [if_neg (by omega), hs]; rfl
  exact (ast_Same.calls (L.length + 1) A c L A2 c2 M _ w hr hc hr2 hc2 hf).mono fun e w' hh => ⟨hh.1, by first | exact hh.2 | exact hh.2.below⟩
theorem C_take {α : Type} {d : Kd α} {w : World} {A : Option Addr} {n k : Nat} {L : List α} (h : Kd.C d w A n L) (hk : k ≤ n) : Kd.C d w A k (L.take k) := by
  obtain ⟨h1, h2, h3⟩ := h
  refine ⟨by rw [List.length_take]; omega, by omega, fun hp => ?_⟩
  obtain ⟨ad, e, hc⟩ := h3 (by omega)
  refine ⟨ad, e, fun j p hj => hc j p ?_⟩
  rw [List.getElem?_take] at hj
  split at hj
  · exact hj
  · cases hj
theorem rright_tree (A : Option Addr) (c : Nat) (L : List S43) (n : Nat) (r : Int) (hn : L.length = n) (hn2 : n ≤ 500) (hc : n ≤ c) (hr0 : rgt L = r) (w : World) (hr : Kd.C k50 w A n (L.map od)) :
    Calls Try.prog 15 #[.slice A n c] w fun e w' => e = .returned (.int .i64 r) ∧ Below w.heap.size w w' := by
  subst hr0; exact rright_calls A c L n hn hn2 hc w hr
theorem rdeep_tree (A : Option Addr) (c : Nat) (L : List S43) (n : Nat) (r : Int) (hn : L.length = n) (hn2 : n ≤ 500) (hc : n ≤ c) (hr0 : dep L = r) (w : World) (hr : Kd.C k50 w A n (L.map od)) :
    Calls Try.prog 17 #[.slice A n c] w fun e w' => e = .returned (.int .i64 r) ∧ Below w.heap.size w w' := by
  subst hr0; exact rdeep_calls A c L n hn hn2 hc w hr
theorem rgroups_tree (A : Option Addr) (c : Nat) (L : List S43) (n : Nat) (r : Int) (hn : L.length = n) (hn2 : n ≤ 500) (hc : n ≤ c) (hr0 : grn L = r) (w : World) (hr : Kd.C k50 w A n (L.map od)) :
    Calls Try.prog 19 #[.slice A n c] w fun e w' => e = .returned (.int .i64 r) ∧ Below w.heap.size w w' := by
  subst hr0; exact rgroups_calls A c L n hn (by omega) hc w hr
theorem rlen_tree (A : Option Addr) (c : Nat) (L : List S43) (n : Nat) (i r1 r2 r3 : Int) (hn : L.length = n) (hn2 : n ≤ 500) (hc : n ≤ c) (hr0 : lenr L i = (r1, r2, r3)) (w : World) (hr : Kd.C k50 w A n (L.map od)) :
    Calls Try.prog 13 #[.slice A n c, .int .i64 i] w fun e w' => e = .returned (.tuple #[.int .i64 r1, .int .i64 r2, .int .i64 r3]) ∧ Below w.heap.size w w' := by
  have h := rlen_calls A c L n hn hn2 hc i w hr
  rw [hr0] at h
  exact h
end Go.Proofs.Ytjeoiebdchlilaa.DKit
end
section
/- The trees of clewlaw05.fixed, and what they are. -/
namespace Go.Proofs.Ytjeoiebdchlilaa.DFix
open Go.RowKit CMem DRow DDeep DSizes DFits DLens DSpec DGrp DCon DOdd DRowN DWrap DJoin DGrouped DRight DRJoin DRFits DRef DRefB DCut DTree DKit Q Go.Proofs.YtjeoiebdchlilaaW.PrintWords
set_option linter.unusedVariables false
set_option linter.unusedSimpArgs false
def nA : S43 := ⟨1, 0, 0, ⟨⟨0, 8589934592, 0, 0⟩⟩, 0, 0, 0, 0, false⟩
def nB : S43 := ⟨1, 0, 0, ⟨⟨0, 17179869184, 0, 0⟩⟩, 0, 0, 0, 0, false⟩
def tT : List S43 := [nA, nB, ⟨8, 0, 1, z41, 0, 0, 0, 0, false⟩]
def tG : List S43 := [nA, nB, ⟨8, 0, 1, z41, 0, 0, 0, 0, false⟩, ⟨11, 2, 0, z41, 0, 0, 0, 1, false⟩]
def tR : List S43 := [nA, nB, ⟨8, 0, 1, z41, 0, 0, 0, 0, false⟩, ⟨11, 2, 0, z41, 0, 0, 0, 1, false⟩, ⟨10, 3, 0, z41, 2, 5, 0, 0, false⟩]
def tK : List S43 := [⟨12, 0, 0, z41, 0, 0, 0, 1, false⟩]
def tU : List S43 := [nA, nB, ⟨8, 0, 1, z41, 0, 0, 0, 0, false⟩, ⟨11, 2, 0, z41, 0, 0, 0, 1, false⟩, ⟨10, 3, 0, z41, 2, 5, 0, 0, false⟩, ⟨12, 0, 0, z41, 0, 0, 0, 1, false⟩, ⟨9, 4, 5, z41, 0, 0, 0, 0, false⟩]
def tX : List S43 := [nA, nB, ⟨8, 0, 1, z41, 0, 0, 0, 0, false⟩, ⟨11, 2, 0, z41, 0, 0, 0, 1, false⟩, ⟨10, 3, 0, z41, 2, 5, 0, 0, false⟩, ⟨15, 4, 0, z41, 0, 0, 0, 0, false⟩]
def tE : List S43 := [⟨0, 0, 0, z41, 0, 0, 0, 1, false⟩]
theorem jT : [nA] ++ [nB].map (shift (1 : Nat)) ++ [⟨8, ((1 : Nat) : Int) - 1, ((1 : Nat) : Int) + (1 : Nat) - 1, z41, 0, 0, 0, 0, false⟩] = tT := by rfl
theorem wG : tT ++ [⟨11, ((3 : Nat) : Int) - 1, 0, ⟨⟨0, 0, 0, 0⟩⟩, 0, 0, 0, 1, false⟩] = tG := by rfl
theorem wR : tG ++ [⟨10, ((4 : Nat) : Int) - 1, 0, ⟨⟨0, 0, 0, 0⟩⟩, 2, 5, 0, 0, false⟩] = tR := by rfl
theorem jU : tR ++ tK.map (shift (5 : Nat)) ++ [⟨9, ((5 : Nat) : Int) - 1, ((5 : Nat) : Int) + (1 : Nat) - 1, z41, 0, 0, 0, 0, false⟩] = tU := by rfl
theorem wX : tR ++ [⟨15, ((5 : Nat) : Int) - 1, 0, ⟨⟨0, 0, 0, 0⟩⟩, 0, 0, 0, 0, false⟩] = tX := by rfl
theorem lU : lenr tU 6 = (0, -1, 0) := by decide
theorem lR : lenr tR 4 = (4, 10, 0) := by decide
theorem lT : lenr tT 3 = (0, 0, 5) := by decide
theorem rT : rgt tT = 0 := by decide
theorem rU : rgt tU = 0 := by decide
theorem gU : grn tU = 1 := by decide
theorem dU : dep tU = 5 := by decide
theorem rX : rgt tX = 7 := by decide
theorem rN : rgt [] = 3 := by decide
theorem rK : rgt tK = 6 := by decide
theorem rE : rgt tE = 3 := by decide
theorem sT : sameb tT tT = true := by decide
theorem sG : sameb tT tG = false := by decide
theorem leafK (w : World) :
    Calls Try.prog 23 #[.agg #[.int .i64 12, .int .i64 0, .int .i64 0, .int .u64 0, .int .u64 0, .int .u64 0, .int .u64 0, .int .i64 0, .int .i64 0, .int .i64 0, .int .i64 1, .bool false]] w fun e w' =>
      (∃ A c, e = .returned (.agg #[.slice A 1 c]) ∧ 1 ≤ c ∧ Kd.C k43 w' A 1 tK) ∧ Below w.heap.size w w' := leaf_tree 12 0 0 0 0 0 0 0 0 0 1 false w
theorem leafE (w : World) :
    Calls Try.prog 23 #[.agg #[.int .i64 0, .int .i64 0, .int .i64 0, .int .u64 0, .int .u64 0, .int .u64 0, .int .u64 0, .int .i64 0, .int .i64 0, .int .i64 0, .int .i64 1, .bool false]] w fun e w' =>
      (∃ A c, e = .returned (.agg #[.slice A 1 c]) ∧ 1 ≤ c ∧ Kd.C k43 w' A 1 tE) ∧ Below w.heap.size w w' := leaf_tree 0 0 0 0 0 0 0 0 0 0 1 false w
theorem joinU (Ar : Option Addr) (cr : Nat) (AK : Option Addr) (cK : Nat) (w : World) (h1 : Kd.C k43 w Ar 5 tR) (h2 : Kd.C k43 w AK 1 tK) :
    Calls Try.prog 22 #[.agg #[.slice Ar 5 cr], .agg #[.slice AK 1 cK], .int .i64 9] w fun e w' =>
      (∃ v, e = .returned (.agg #[v]) ∧ w'.ownsRow w.heap.size 43 12 v 7 (ra tU)) ∧ Below w.heap.size w w' := by
  have h := join_calls Ar cr tR 5 rfl AK cK tK 1 rfl (by decide) 9 w h1 h2
  rw [jU] at h
  exact h
end Go.Proofs.Ytjeoiebdchlilaa.DFix
end
section
/- clewlaw05.fixed: its walk. -/
namespace Go.Proofs.Ytjeoiebdchlilaa.DFixed
open Go.RowKit CMem DRow DDeep DSizes DFits DLens DSpec DGrp DCon DOdd DRowN DWrap DJoin DGrouped DRight DRJoin DRFits DRef DRefB DCut DTree DKit DFix Q Go.Proofs.YtjeoiebdchlilaaW.PrintWords Go.Proofs.YtjeoiebdchlilaaW.PrintLast Go.Proofs.YtjeoiebdchlilaaW.PrintMore
set_option linter.unusedVariables false
set_option linter.unusedSimpArgs false
set_option maxRecDepth 100000
theorem nilC (w : World) : Kd.C k43 w none 0 [] := ⟨rfl, by decide, fun h => absurd h (Nat.lt_irrefl _)⟩
attribute [local go_sem high] eqA39 eqA41 eqA43
set_option maxHeartbeats 12800000 in
theorem fixed_calls (w : World) : Calls Try.prog 20 #[] w fun e w' => e = .returned (.bool true) ∧ Below w.heap.size w w' := by
  have K1 := Lib.hid (one_calls 97 (.inl rfl))
  have K2 := Lib.hid (one_calls 98 (.inr rfl))
  have e1 : ((2 ^ (97 - 64) : Nat) : Int) = 8589934592 := by decide
  have e2 : ((2 ^ (98 - 64) : Nat) : Int) = 17179869184 := by decide
  rw [e1] at K1
  rw [e2] at K2
  unfold sc at K1 K2
  clear e1 e2
  have HB_0 := Lib.hid (Below.refl w.heap.size w)
  go_enter Try.func20, Try.ntmps20
  go_wp2_with fail
  refine (K1.out _).mono ?_
  rintro e w1 ⟨rfl, hb⟩
  have HB_1 := Lib.hid (below_step HB_0.out hb)
  clear hb HB_0
  go_wp2_with fail
  refine (leaf_tree 1 0 0 0 8589934592 0 0 0 0 0 0 false _).mono ?_
  rintro e w2 ⟨⟨Aa, ca, rfl, hle, C⟩, hb⟩
  have Ca_2 := Lib.hid C
  have Ha := Lib.hid hle
  clear C hle
  have HB_2 := Lib.hid (below_step HB_1.out hb)
  clear hb HB_1
  go_wp2_with fail
  refine (K2.out _).mono ?_
  rintro e w3 ⟨rfl, hb⟩
  have Ca_3 := Lib.hid (Kd.C_below Ca_2.out hb)
  have HB_3 := Lib.hid (below_step HB_2.out hb)
  clear hb HB_2 Ca_2
  go_wp2_with fail
  refine (leaf_tree 1 0 0 0 17179869184 0 0 0 0 0 0 false _).mono ?_
  rintro e w4 ⟨⟨Ab, cb, rfl, hle, C⟩, hb⟩
  have Ca_4 := Lib.hid (Kd.C_below (Kd.C_below (Kd.C_below Ca_3.out hb) (below1 _ (.cells #[.slice Aa 1 ca] 24))) (below1 _ (.cells #[.slice Ab 1 cb] 24)))
  have Cb_4 := Lib.hid (Kd.C_below (Kd.C_below C (below1 _ (.cells #[.slice Aa 1 ca] 24))) (below1 _ (.cells #[.slice Ab 1 cb] 24)))
  have Hb := Lib.hid hle
  clear C hle
  have Ba_4 := Lib.hid (blk_alloc (heap_alloc_new w4 (.cells #[.slice Aa 1 ca] 24)) (.cells #[.slice Ab 1 cb] 24))
  have Bb_4 := Lib.hid (blk2 w4 (.cells #[.slice Aa 1 ca] 24) #[.slice Ab 1 cb] 24)
  have HB_4 := Lib.hid (((below_step HB_3.out hb).alloc (below_step HB_3.out hb).size (.cells #[.slice Aa 1 ca] 24)).alloc (Nat.le_trans (below_step HB_3.out hb).size (by simp)) (.cells #[.slice Ab 1 cb] 24))
  clear hb HB_3 Ca_3
  go_wp2_with fail
  generalize hW : (w4.alloc (.cells #[.slice Aa 1 ca] 24)).alloc (.cells #[.slice Ab 1 cb] 24) = v4 at *
  clear hW
  generalize hPa : w4.heap.size = Pa at *
  have eb : Pa + 1 = Pa + 1 := rfl
  generalize hPb : Pa + 1 = Pb at *
  clear eb
  clear hPa
  have La_4 := blk_cell Ba_4.out 0 (.slice Aa 1 ca) rfl
  clear hPb
  have Lb_4 := blk_cell Bb_4.out 0 (.slice Ab 1 cb) rfl
  refine (join_tree Aa ca [nA] [nB] tT 1 1 3 rfl Ab cb rfl (by decide) rfl 8 jT _ Ca_4.out Cb_4.out).mono ?_
  rintro e w5 ⟨⟨At, ct, rfl, hle, C⟩, hb⟩
  have Ca_5 := Lib.hid (Kd.C_below (Kd.C_below Ca_4.out hb) (below1 _ (.cells #[.slice At 3 ct] 24)))
  have Cb_5 := Lib.hid (Kd.C_below (Kd.C_below Cb_4.out hb) (below1 _ (.cells #[.slice At 3 ct] 24)))
  have Ct_5 := Lib.hid (Kd.C_below C (below1 _ (.cells #[.slice At 3 ct] 24)))
  have Ht := Lib.hid hle
  clear C hle
  have Ba_5 := Lib.hid (blk_alloc (below_blk hb Ba_4.out) (.cells #[.slice At 3 ct] 24))
  have La_5 := blk_cell Ba_5.out 0 (.slice Aa 1 ca) rfl
  have Bb_5 := Lib.hid (blk_alloc (below_blk hb Bb_4.out) (.cells #[.slice At 3 ct] 24))
  have Lb_5 := blk_cell Bb_5.out 0 (.slice Ab 1 cb) rfl
  have Bt_5 := Lib.hid (heap_alloc_new w5 (.cells #[.slice At 3 ct] 24))
  have HB_5 := Lib.hid ((below_step HB_4.out hb).alloc (below_step HB_4.out hb).size (.cells #[.slice At 3 ct] 24))
  clear hb HB_4 Ca_4 Cb_4 Ba_4 La_4 Bb_4 Lb_4
  go_wp2_with fail
  generalize hW : w5.alloc (.cells #[.slice At 3 ct] 24) = v5 at *
  clear hW
  generalize hPt : w5.heap.size = Pt at *
  clear hPt
  have Lt_5 := blk_cell Bt_5.out 0 (.slice At 3 ct) rfl
  refine (wrap_tree At ct tT tG 3 4 rfl (by decide) rfl 11 0 0 0 0 0 0 0 0 0 1 false wG _ Ct_5.out).mono ?_
  rintro e w6 ⟨⟨Ag, cg, rfl, hle, C⟩, hb⟩
  have Ca_6 := Lib.hid (Kd.C_below (Kd.C_below Ca_5.out hb) (below1 _ (.cells #[.slice Ag 4 cg] 24)))
  have Cb_6 := Lib.hid (Kd.C_below (Kd.C_below Cb_5.out hb) (below1 _ (.cells #[.slice Ag 4 cg] 24)))
  have Ct_6 := Lib.hid (Kd.C_below (Kd.C_below Ct_5.out hb) (below1 _ (.cells #[.slice Ag 4 cg] 24)))
  have Cg_6 := Lib.hid (Kd.C_below C (below1 _ (.cells #[.slice Ag 4 cg] 24)))
  have Hg := Lib.hid hle
  clear C hle
  have Ba_6 := Lib.hid (blk_alloc (below_blk hb Ba_5.out) (.cells #[.slice Ag 4 cg] 24))
  have La_6 := blk_cell Ba_6.out 0 (.slice Aa 1 ca) rfl
  have Bb_6 := Lib.hid (blk_alloc (below_blk hb Bb_5.out) (.cells #[.slice Ag 4 cg] 24))
  have Lb_6 := blk_cell Bb_6.out 0 (.slice Ab 1 cb) rfl
  have Bt_6 := Lib.hid (blk_alloc (below_blk hb Bt_5.out) (.cells #[.slice Ag 4 cg] 24))
  have Lt_6 := blk_cell Bt_6.out 0 (.slice At 3 ct) rfl
  have Bg_6 := Lib.hid (heap_alloc_new w6 (.cells #[.slice Ag 4 cg] 24))
  have HB_6 := Lib.hid ((below_step HB_5.out hb).alloc (below_step HB_5.out hb).size (.cells #[.slice Ag 4 cg] 24))
  clear hb HB_5 Ca_5 Cb_5 Ct_5 Ba_5 La_5 Bb_5 Lb_5 Bt_5 Lt_5
  go_wp2_with fail
  generalize hW : w6.alloc (.cells #[.slice Ag 4 cg] 24) = v6 at *
  clear hW
  generalize hPg : w6.heap.size = Pg at *
  clear hPg
  have Lg_6 := blk_cell Bg_6.out 0 (.slice Ag 4 cg) rfl
  refine (wrap_tree Ag cg tG tR 4 5 rfl (by decide) rfl 10 0 0 0 0 0 0 2 5 0 0 false wR _ Cg_6.out).mono ?_
  rintro e w7 ⟨⟨Ar, cr, rfl, hle, C⟩, hb⟩
  have Ca_7 := Lib.hid (Kd.C_below (Kd.C_below Ca_6.out hb) (below1 _ (.cells #[.slice Ar 5 cr] 24)))
  have Cb_7 := Lib.hid (Kd.C_below (Kd.C_below Cb_6.out hb) (below1 _ (.cells #[.slice Ar 5 cr] 24)))
  have Ct_7 := Lib.hid (Kd.C_below (Kd.C_below Ct_6.out hb) (below1 _ (.cells #[.slice Ar 5 cr] 24)))
  have Cg_7 := Lib.hid (Kd.C_below (Kd.C_below Cg_6.out hb) (below1 _ (.cells #[.slice Ar 5 cr] 24)))
  have Cr_7 := Lib.hid (Kd.C_below C (below1 _ (.cells #[.slice Ar 5 cr] 24)))
  have Hr := Lib.hid hle
  clear C hle
  have Ba_7 := Lib.hid (blk_alloc (below_blk hb Ba_6.out) (.cells #[.slice Ar 5 cr] 24))
  have La_7 := blk_cell Ba_7.out 0 (.slice Aa 1 ca) rfl
  have Bb_7 := Lib.hid (blk_alloc (below_blk hb Bb_6.out) (.cells #[.slice Ar 5 cr] 24))
  have Lb_7 := blk_cell Bb_7.out 0 (.slice Ab 1 cb) rfl
  have Bt_7 := Lib.hid (blk_alloc (below_blk hb Bt_6.out) (.cells #[.slice Ar 5 cr] 24))
  have Lt_7 := blk_cell Bt_7.out 0 (.slice At 3 ct) rfl
  have Bg_7 := Lib.hid (blk_alloc (below_blk hb Bg_6.out) (.cells #[.slice Ar 5 cr] 24))
  have Lg_7 := blk_cell Bg_7.out 0 (.slice Ag 4 cg) rfl
  have Br_7 := Lib.hid (heap_alloc_new w7 (.cells #[.slice Ar 5 cr] 24))
  have HB_7 := Lib.hid ((below_step HB_6.out hb).alloc (below_step HB_6.out hb).size (.cells #[.slice Ar 5 cr] 24))
  clear hb HB_6 Ca_6 Cb_6 Ct_6 Cg_6 Ba_6 La_6 Bb_6 Lb_6 Bt_6 Lt_6 Bg_6 Lg_6
  go_wp2_with fail
  generalize hW : w7.alloc (.cells #[.slice Ar 5 cr] 24) = v7 at *
  clear hW
  generalize hPr : w7.heap.size = Pr at *
  clear hPr
  have Lr_7 := blk_cell Br_7.out 0 (.slice Ar 5 cr) rfl
  clear Ca_7 Cb_7 Ba_7 La_7 Bb_7 Lb_7
  have hZ := Lib.hid (Below.refl v7.heap.size v7)
  refine start_ (n := 6) (S := fun w' => w'.cell? ⟨Pr, 0, none⟩ = some (.slice Ar 5 cr) ∧ Below v7.heap.size v7 w') (ds := [5]) #[false, false, false, false, false, false] (by kernel_rfl) rfl rfl ⟨Lr_7, hZ.out.drew⟩ (fun hHeld => ?_)
  refine pure_ (i := 1) (N := some 33) (v := ?_) (a' := ?_) #[false, true, false, false, false, false] rfl rfl (by kernel_rfl) (fun _ _ _ h => h) (Or.inl ⟨by rfl, ?_⟩) ?_ ?_
  rotate_left
  · intro w'
    go_simp
    with_reducible rfl
  rotate_left
  · simp only [Act.put, List.setIfInBounds_toArray, List.set_cons_zero, List.set_cons_succ, i64_w, i32_w]
    rfl
  refine take_ (i := 0) (N := some 32) (v := ?_) (a' := ?_) #[true, true, false, false, false, false] rfl rfl (by kernel_rfl) (fun _ _ _ h => h) (Or.inl ⟨by rfl, ?_⟩) hHeld ?_ ?_
  rotate_left
  · rintro w' ⟨s0, s1⟩
    go_simp
    with_reducible rfl
  rotate_left
  · simp only [Act.put, List.setIfInBounds_toArray, List.set_cons_zero, List.set_cons_succ, i64_w, i32_w]
    rfl
  refine join_ (σ := Nat × (Option Addr × Nat) × (Option Addr × Nat)) 1 #[true, true, true, true, true, false] (fun s => [(34, .agg #[.slice s.2.2.1 1 s.2.2.2]), (35, .agg #[.slice s.2.1.1 7 s.2.1.2]), (6, .pointer (some ⟨s.1, 0, none⟩))]) (fun s w' => w'.heap[s.1]? = some (.cells #[.slice none 0 0] 24 (0, 0)) ∧ w'.ownsRow v7.heap.size 43 12 (.slice s.2.1.1 7 s.2.1.2) 7 (ra tU) ∧ 7 ≤ s.2.1.2 ∧ v7.heap.size ≤ s.1 ∧ w'.cell? ⟨Pr, 0, none⟩ = some (.slice Ar 5 cr) ∧ Below v7.heap.size v7 w') ?_ ?_
  rotate_left
  · intro hCont
    refine two_ (i := 2) (j := 4) (Ni := some 34) (Nj := some 6) #[true, true, true, false, false, false] #[true, true, false, false, true, false] rfl rfl rfl rfl (by kernel_rfl) (by decide) (by decide) (fun K hK => ?_) (fun K hK => ?_)
    · skip
      refine goes_ Try.func23 (by kernel_rfl) rfl #[.agg #[.int .i64 12, .int .i64 0, .int .i64 0, .int .u64 0, .int .u64 0, .int .u64 0, .int .u64 0, .int .i64 0, .int .i64 0, .int .i64 0, .int .i64 1, .bool false]] (by rfl) rfl rfl (by simp only [List.map_toArray, List.map_cons, List.map_nil]; rfl) ?_
      with_reducible refine (leafK _).mono ?_
      rintro e X2 ⟨⟨AK, cK, rfl, hleK, CK⟩, hb⟩
      refine ⟨_, rfl, ?_⟩
      refine hK.out _ _ ⟨(below_of hb hHeld.1), (below_step hHeld.2 hb)⟩ (fun hHeld => ?_)
      clear hK K
      refine norm_ (a' := ?_) ?_ ?_
      rotate_left
      · show Act.put _ (some 34) _ = _
        simp only [Act.put, List.setIfInBounds_toArray, List.set_cons_zero, List.set_cons_succ, i64_w, i32_w]
        rfl
      refine two_ (i := 3) (j := 4) (Ni := some 35) (Nj := some 6) #[true, true, true, true, false, false] #[true, true, true, false, true, false] rfl rfl rfl rfl (by kernel_rfl) (by decide) (by decide) (fun K hK => ?_) (fun K hK => ?_)
      · skip
        refine goes_ Try.func22 (by kernel_rfl) rfl #[.agg #[.slice Ar 5 cr], .agg #[.slice AK 1 cK], .int .i64 9] (by rfl) rfl rfl (by simp only [List.map_toArray, List.map_cons, List.map_nil]; rfl) ?_
        with_reducible refine (joinU Ar cr AK cK _ (Kd.C_below Cr_7.out hHeld.2) CK).mono ?_
        rintro e X3 ⟨⟨vU, rfl, ho⟩, hb⟩
        refine ⟨_, rfl, ?_⟩
        obtain ⟨AU, cU, rfl, hleU, _⟩ := own_C (n := 7) rfl (by decide) ho
        replace ho := own_weaken ho (hHeld.2).size
        refine hK.out _ _ ⟨(below_of hb hHeld.1), (below_step hHeld.2 hb)⟩ (fun hHeld => ?_)
        clear hK K
        refine norm_ (a' := ?_) ?_ ?_
        rotate_left
        · show Act.put _ (some 35) _ = _
          simp only [Act.put, List.setIfInBounds_toArray, List.set_cons_zero, List.set_cons_succ, i64_w, i32_w]
          rfl
        refine one_ (i := 4) (N := some 6) #[true, true, true, true, true, false] rfl rfl (by kernel_rfl) (by decide) (fun K hK => ?_)
        refine value_ (w1 := ?_) (v := ?_) (by rfl) rfl ?_ ?_
        rotate_left 2
        · go_simp
          constructor
          · rfl
          · rfl
        refine letter_ ?_
        intro X4 hW
        have hb4 : Below X3.heap.size X3 X4 := by rw [hW]; exact below1 _ _
        have R4 : X4.heap[X3.heap.size]? = some (.cells #[.slice none 0 0] 24 (0, 0)) := by rw [hW]; exact heap_alloc_new _ _
        have le4 := (hHeld.2).size
        have ho : X4.ownsRow v7.heap.size 43 12 (.slice AU 7 cU) 7 (ra tU) := by rw [hW]; exact ho.alloc _
        clear hW
        refine hK.out _ _ ⟨(below_of hb4 hHeld.1), (below_step hHeld.2 hb4)⟩ (fun hHeld => ?_)
        clear hK K
        refine norm_ (a' := ?_) ?_ ?_
        rotate_left
        · show Act.put _ (some 6) _ = _
          simp only [Act.put, List.setIfInBounds_toArray, List.set_cons_zero, List.set_cons_succ, i64_w, i32_w]
          rfl
        exact norm_ (by simp only [putAll, Act.put, List.setIfInBounds_toArray, List.set_cons_zero, List.set_cons_succ]) (hCont (X3.heap.size, (AU, cU), (AK, cK)) _ ⟨R4, ho, hleU, le4, hHeld⟩)
      · skip
        refine value_ (w1 := ?_) (v := ?_) (by rfl) rfl ?_ ?_
        rotate_left 2
        · go_simp
          constructor
          · rfl
          · rfl
        refine letter_ ?_
        intro X4 hW
        have hb4 : Below X2.heap.size X2 X4 := by rw [hW]; exact below1 _ _
        have R4 : X4.heap[X2.heap.size]? = some (.cells #[.slice none 0 0] 24 (0, 0)) := by rw [hW]; exact heap_alloc_new _ _
        have le4 := (hHeld.2).size
        have CK := Kd.C_below CK hb4
        clear hW
        refine hK.out _ _ ⟨(below_of hb4 hHeld.1), (below_step hHeld.2 hb4)⟩ (fun hHeld => ?_)
        clear hK K
        refine norm_ (a' := ?_) ?_ ?_
        rotate_left
        · show Act.put _ (some 6) _ = _
          simp only [Act.put, List.setIfInBounds_toArray, List.set_cons_zero, List.set_cons_succ, i64_w, i32_w]
          rfl
        refine one_ (i := 3) (N := some 35) #[true, true, true, true, true, false] rfl rfl (by kernel_rfl) (by decide) (fun K hK => ?_)
        refine goes_ Try.func22 (by kernel_rfl) rfl #[.agg #[.slice Ar 5 cr], .agg #[.slice AK 1 cK], .int .i64 9] (by rfl) rfl rfl (by simp only [List.map_toArray, List.map_cons, List.map_nil]; rfl) ?_
        with_reducible refine (joinU Ar cr AK cK _ (Kd.C_below Cr_7.out hHeld.2) CK).mono ?_
        rintro e X3 ⟨⟨vU, rfl, ho⟩, hb⟩
        refine ⟨_, rfl, ?_⟩
        obtain ⟨AU, cU, rfl, hleU, _⟩ := own_C (n := 7) rfl (by decide) ho
        replace ho := own_weaken ho (hHeld.2).size
        have R4 := below_blk hb R4
        refine hK.out _ _ ⟨(below_of hb hHeld.1), (below_step hHeld.2 hb)⟩ (fun hHeld => ?_)
        clear hK K
        refine norm_ (a' := ?_) ?_ ?_
        rotate_left
        · show Act.put _ (some 35) _ = _
          simp only [Act.put, List.setIfInBounds_toArray, List.set_cons_zero, List.set_cons_succ, i64_w, i32_w]
          rfl
        exact norm_ (by simp only [putAll, Act.put, List.setIfInBounds_toArray, List.set_cons_zero, List.set_cons_succ]) (hCont (X2.heap.size, (AU, cU), (AK, cK)) _ ⟨R4, ho, hleU, le4, hHeld⟩)
    · skip
      refine value_ (w1 := ?_) (v := ?_) (by rfl) rfl ?_ ?_
      rotate_left 2
      · go_simp
        constructor
        · rfl
        · rfl
      refine letter_ ?_
      intro X4 hW
      have hb4 : Below v7.drew.heap.size v7.drew X4 := by rw [hW]; exact below1 _ _
      have R4 : X4.heap[v7.drew.heap.size]? = some (.cells #[.slice none 0 0] 24 (0, 0)) := by rw [hW]; exact heap_alloc_new _ _
      have le4 := (hHeld.2).size
      clear hW
      refine hK.out _ _ ⟨(below_of hb4 hHeld.1), (below_step hHeld.2 hb4)⟩ (fun hHeld => ?_)
      clear hK K
      refine norm_ (a' := ?_) ?_ ?_
      rotate_left
      · show Act.put _ (some 6) _ = _
        simp only [Act.put, List.setIfInBounds_toArray, List.set_cons_zero, List.set_cons_succ, i64_w, i32_w]
        rfl
      refine one_ (i := 2) (N := some 34) #[true, true, true, false, true, false] rfl rfl (by kernel_rfl) (by decide) (fun K hK => ?_)
      refine goes_ Try.func23 (by kernel_rfl) rfl #[.agg #[.int .i64 12, .int .i64 0, .int .i64 0, .int .u64 0, .int .u64 0, .int .u64 0, .int .u64 0, .int .i64 0, .int .i64 0, .int .i64 0, .int .i64 1, .bool false]] (by rfl) rfl rfl (by simp only [List.map_toArray, List.map_cons, List.map_nil]; rfl) ?_
      with_reducible refine (leafK _).mono ?_
      rintro e X2 ⟨⟨AK, cK, rfl, hleK, CK⟩, hb⟩
      refine ⟨_, rfl, ?_⟩
      have R4 := below_blk hb R4
      refine hK.out _ _ ⟨(below_of hb hHeld.1), (below_step hHeld.2 hb)⟩ (fun hHeld => ?_)
      clear hK K
      refine norm_ (a' := ?_) ?_ ?_
      rotate_left
      · show Act.put _ (some 34) _ = _
        simp only [Act.put, List.setIfInBounds_toArray, List.set_cons_zero, List.set_cons_succ, i64_w, i32_w]
        rfl
      refine one_ (i := 3) (N := some 35) #[true, true, true, true, true, false] rfl rfl (by kernel_rfl) (by decide) (fun K hK => ?_)
      refine goes_ Try.func22 (by kernel_rfl) rfl #[.agg #[.slice Ar 5 cr], .agg #[.slice AK 1 cK], .int .i64 9] (by rfl) rfl rfl (by simp only [List.map_toArray, List.map_cons, List.map_nil]; rfl) ?_
      with_reducible refine (joinU Ar cr AK cK _ (Kd.C_below Cr_7.out hHeld.2) CK).mono ?_
      rintro e X3 ⟨⟨vU, rfl, ho⟩, hb⟩
      refine ⟨_, rfl, ?_⟩
      obtain ⟨AU, cU, rfl, hleU, _⟩ := own_C (n := 7) rfl (by decide) ho
      replace ho := own_weaken ho (hHeld.2).size
      have R4 := below_blk hb R4
      refine hK.out _ _ ⟨(below_of hb hHeld.1), (below_step hHeld.2 hb)⟩ (fun hHeld => ?_)
      clear hK K
      refine norm_ (a' := ?_) ?_ ?_
      rotate_left
      · show Act.put _ (some 35) _ = _
        simp only [Act.put, List.setIfInBounds_toArray, List.set_cons_zero, List.set_cons_succ, i64_w, i32_w]
        rfl
      exact norm_ (by simp only [putAll, Act.put, List.setIfInBounds_toArray, List.set_cons_zero, List.set_cons_succ]) (hCont (v7.heap.size, (AU, cU), (AK, cK)) _ ⟨R4, ho, hleU, le4, hHeld⟩)
  rintro ⟨Pu, ⟨Au, cu⟩, AK, cK⟩ W8 ⟨R4, ho, hle, le4, hHeld⟩
  simp only [] at R4 ho hle le4
  refine norm_ (a' := ?_) ?_ ?_
  rotate_left
  · simp only [putAll, Act.put, List.setIfInBounds_toArray, List.set_cons_zero, List.set_cons_succ]
    rfl
  refine last_ (i := 5) (N := none) #[true, true, true, true, true, true] rfl rfl (by kernel_rfl) (by decide) (fun K hK => ?_)
  have c6 := blk_cell R4 0 (.slice none 0 0) rfl
  have f6 := blk_free R4 0
  refine skip_ (w1 := ?_) (by rfl) rfl ?_ ?_
  rotate_left
  · go_simp
    rfl
  refine hK.out _ _ ?_
  clear hK K
  refine done_ (by kernel_rfl) ?_
  obtain ⟨_, hbz⟩ := hHeld
  have hbz2 := CMem.below_set (b := Pu) (i := 0) hbz le4 (.slice Au 7 cu)
  have Bu_8 := Lib.hid (set_blk (i := 0) R4 (.slice Au 7 cu))
  have Bt_8 := Lib.hid (below_blk hbz2 Bt_7.out)
  have Bg_8 := Lib.hid (below_blk hbz2 Bg_7.out)
  have Br_8 := Lib.hid (below_blk hbz2 Br_7.out)
  have Ct_8 := Lib.hid (Kd.C_below Ct_7.out hbz2)
  have Cg_8 := Lib.hid (Kd.C_below Cg_7.out hbz2)
  have Cr_8 := Lib.hid (Kd.C_below Cr_7.out hbz2)
  have HB_8 := Lib.hid (below_step HB_7.out hbz2)
  have ho8 : (W8.setCell ⟨Pu, 0, none⟩ (.slice Au 7 cu)).ownsRow v7.heap.size 43 12 (.slice Au 7 cu) 7 (ra tU) := own_move ho (fun j hj => Below.heap_setCell W8 ⟨Pu, 0, none⟩ _ j (by
    rintro rfl
    obtain ⟨cs, hcs⟩ := own_typed ho _ hj
    rw [R4] at hcs
    injection hcs with hcs
    injection hcs with _ hcs
    exact absurd hcs (by decide)))
  have Cu_8 : Hid (Kd.C k43 (W8.setCell ⟨Pu, 0, none⟩ (.slice Au 7 cu)) Au 7 tU) := Lib.hid (by
    obtain ⟨A', c', he, _, hC⟩ := own_C (n := 7) rfl (by decide) ho8
    injection he with e1 e2 e3
    subst e1
    exact hC)
  have Hu := Lib.hid hle
  have Lt_8 := blk_cell Bt_8.out 0 (.slice At 3 ct) rfl
  have Lg_8 := blk_cell Bg_8.out 0 (.slice Ag 4 cg) rfl
  have Lr_8 := blk_cell Br_8.out 0 (.slice Ar 5 cr) rfl
  have Lu_8 := blk_cell Bu_8.out 0 (.slice Au 7 cu) rfl
  clear ho8 ho R4 hle le4 hbz hbz2 hZ Ct_7 Cg_7 Cr_7 Bt_7 Lt_7 Bg_7 Lg_7 Br_7 Lr_7 HB_7
  generalize hW : W8.setCell ⟨Pu, 0, none⟩ (.slice Au 7 cu) = v8 at *
  clear hW
  go_wp2_with fail
  refine (len_tree Au cu tU 7 6 0 (-1) 0 rfl (by decide) lU _ Cu_8.out).mono ?_
  rintro e w9 ⟨rfl, hb⟩
  have Ct_9 := Lib.hid (Kd.C_below Ct_8.out hb)
  have Cg_9 := Lib.hid (Kd.C_below Cg_8.out hb)
  have Cr_9 := Lib.hid (Kd.C_below Cr_8.out hb)
  have Cu_9 := Lib.hid (Kd.C_below Cu_8.out hb)
  have Bt_9 := Lib.hid (below_blk hb Bt_8.out)
  have Lt_9 := blk_cell Bt_9.out 0 (.slice At 3 ct) rfl
  have Bg_9 := Lib.hid (below_blk hb Bg_8.out)
  have Lg_9 := blk_cell Bg_9.out 0 (.slice Ag 4 cg) rfl
  have Br_9 := Lib.hid (below_blk hb Br_8.out)
  have Lr_9 := blk_cell Br_9.out 0 (.slice Ar 5 cr) rfl
  have Bu_9 := Lib.hid (below_blk hb Bu_8.out)
  have Lu_9 := blk_cell Bu_9.out 0 (.slice Au 7 cu) rfl
  have HB_9 := Lib.hid (below_step HB_8.out hb)
  clear hb HB_8 Ct_8 Cg_8 Cr_8 Cu_8 Bt_8 Lt_8 Bg_8 Lg_8 Br_8 Lr_8 Bu_8 Lu_8
  go_wp2_with fail
  refine (len_tree Ar cr tR 5 4 4 10 0 rfl (by decide) lR _ Cr_9.out).mono ?_
  rintro e w10 ⟨rfl, hb⟩
  have Ct_10 := Lib.hid (Kd.C_below Ct_9.out hb)
  have Cg_10 := Lib.hid (Kd.C_below Cg_9.out hb)
  have Cr_10 := Lib.hid (Kd.C_below Cr_9.out hb)
  have Cu_10 := Lib.hid (Kd.C_below Cu_9.out hb)
  have Bt_10 := Lib.hid (below_blk hb Bt_9.out)
  have Lt_10 := blk_cell Bt_10.out 0 (.slice At 3 ct) rfl
  have Bg_10 := Lib.hid (below_blk hb Bg_9.out)
  have Lg_10 := blk_cell Bg_10.out 0 (.slice Ag 4 cg) rfl
  have Br_10 := Lib.hid (below_blk hb Br_9.out)
  have Lr_10 := blk_cell Br_10.out 0 (.slice Ar 5 cr) rfl
  have Bu_10 := Lib.hid (below_blk hb Bu_9.out)
  have Lu_10 := blk_cell Bu_10.out 0 (.slice Au 7 cu) rfl
  have HB_10 := Lib.hid (below_step HB_9.out hb)
  clear hb HB_9 Ct_9 Cg_9 Cr_9 Cu_9 Bt_9 Lt_9 Bg_9 Lg_9 Br_9 Lr_9 Bu_9 Lu_9
  go_wp2_with fail
  refine (len_tree At ct tT 3 3 0 0 5 rfl (by decide) lT _ Ct_10.out).mono ?_
  rintro e w11 ⟨rfl, hb⟩
  have Ct_11 := Lib.hid (Kd.C_below Ct_10.out hb)
  have Cg_11 := Lib.hid (Kd.C_below Cg_10.out hb)
  have Cr_11 := Lib.hid (Kd.C_below Cr_10.out hb)
  have Cu_11 := Lib.hid (Kd.C_below Cu_10.out hb)
  have Bt_11 := Lib.hid (below_blk hb Bt_10.out)
  have Lt_11 := blk_cell Bt_11.out 0 (.slice At 3 ct) rfl
  have Bg_11 := Lib.hid (below_blk hb Bg_10.out)
  have Lg_11 := blk_cell Bg_11.out 0 (.slice Ag 4 cg) rfl
  have Br_11 := Lib.hid (below_blk hb Br_10.out)
  have Lr_11 := blk_cell Br_11.out 0 (.slice Ar 5 cr) rfl
  have Bu_11 := Lib.hid (below_blk hb Bu_10.out)
  have Lu_11 := blk_cell Bu_11.out 0 (.slice Au 7 cu) rfl
  have HB_11 := Lib.hid (below_step HB_10.out hb)
  clear hb HB_10 Ct_10 Cg_10 Cr_10 Cu_10 Bt_10 Lt_10 Bg_10 Lg_10 Br_10 Lr_10 Bu_10 Lu_10
  go_wp2_with fail
  obtain ⟨ad, hA, z0, z1, z2, z3, z4, z5, z6, z7, z8, z9, z10, z11⟩ := at_T43 Ct_11.out 2 (by decide) (by decide)
  subst hA
  replace z0 : w11.cell? ⟨ad.block, ad.off + 24, none⟩ = some (.int .i64 8) := z0
  replace z1 : w11.cell? ⟨ad.block, ad.off + 24 + 1, none⟩ = some (.int .i64 0) := z1
  replace z2 : w11.cell? ⟨ad.block, ad.off + 24 + 2, none⟩ = some (.int .i64 1) := z2
  replace z3 : w11.cell? ⟨ad.block, ad.off + 24 + 3, none⟩ = some (.int .u64 0) := z3
  replace z4 : w11.cell? ⟨ad.block, ad.off + 24 + 4, none⟩ = some (.int .u64 0) := z4
  replace z5 : w11.cell? ⟨ad.block, ad.off + 24 + 5, none⟩ = some (.int .u64 0) := z5
  replace z6 : w11.cell? ⟨ad.block, ad.off + 24 + 6, none⟩ = some (.int .u64 0) := z6
  replace z7 : w11.cell? ⟨ad.block, ad.off + 24 + 7, none⟩ = some (.int .i64 0) := z7
  replace z8 : w11.cell? ⟨ad.block, ad.off + 24 + 8, none⟩ = some (.int .i64 0) := z8
  replace z9 : w11.cell? ⟨ad.block, ad.off + 24 + 9, none⟩ = some (.int .i64 0) := z9
  replace z10 : w11.cell? ⟨ad.block, ad.off + 24 + 10, none⟩ = some (.int .i64 0) := z10
  replace z11 : w11.cell? ⟨ad.block, ad.off + 24 + 11, none⟩ = some (.bool false) := z11
  refine (wrap_tree Ar cr tR tX 5 6 rfl (by decide) rfl 15 0 0 0 0 0 0 0 0 0 0 false wX _ Cr_11.out).mono ?_
  rintro e w12 ⟨⟨Ax, cx, rfl, hle, C⟩, hb⟩
  replace z0 := below_of (below1 w12 (.cells #[.slice Ax 6 cx] 24)) (below_of hb z0)
  replace z1 := below_of (below1 w12 (.cells #[.slice Ax 6 cx] 24)) (below_of hb z1)
  replace z2 := below_of (below1 w12 (.cells #[.slice Ax 6 cx] 24)) (below_of hb z2)
  replace z3 := below_of (below1 w12 (.cells #[.slice Ax 6 cx] 24)) (below_of hb z3)
  replace z4 := below_of (below1 w12 (.cells #[.slice Ax 6 cx] 24)) (below_of hb z4)
  replace z5 := below_of (below1 w12 (.cells #[.slice Ax 6 cx] 24)) (below_of hb z5)
  replace z6 := below_of (below1 w12 (.cells #[.slice Ax 6 cx] 24)) (below_of hb z6)
  replace z7 := below_of (below1 w12 (.cells #[.slice Ax 6 cx] 24)) (below_of hb z7)
  replace z8 := below_of (below1 w12 (.cells #[.slice Ax 6 cx] 24)) (below_of hb z8)
  replace z9 := below_of (below1 w12 (.cells #[.slice Ax 6 cx] 24)) (below_of hb z9)
  replace z10 := below_of (below1 w12 (.cells #[.slice Ax 6 cx] 24)) (below_of hb z10)
  replace z11 := below_of (below1 w12 (.cells #[.slice Ax 6 cx] 24)) (below_of hb z11)
  have Ct_12 := Lib.hid (Kd.C_below (Kd.C_below Ct_11.out hb) (below1 _ (.cells #[.slice Ax 6 cx] 24)))
  have Cg_12 := Lib.hid (Kd.C_below (Kd.C_below Cg_11.out hb) (below1 _ (.cells #[.slice Ax 6 cx] 24)))
  have Cr_12 := Lib.hid (Kd.C_below (Kd.C_below Cr_11.out hb) (below1 _ (.cells #[.slice Ax 6 cx] 24)))
  have Cu_12 := Lib.hid (Kd.C_below (Kd.C_below Cu_11.out hb) (below1 _ (.cells #[.slice Ax 6 cx] 24)))
  have Cx_12 := Lib.hid (Kd.C_below C (below1 _ (.cells #[.slice Ax 6 cx] 24)))
  have Hx := Lib.hid hle
  clear C hle
  have Bt_12 := Lib.hid (blk_alloc (below_blk hb Bt_11.out) (.cells #[.slice Ax 6 cx] 24))
  have Lt_12 := blk_cell Bt_12.out 0 (.slice (some ad) 3 ct) rfl
  have Bg_12 := Lib.hid (blk_alloc (below_blk hb Bg_11.out) (.cells #[.slice Ax 6 cx] 24))
  have Lg_12 := blk_cell Bg_12.out 0 (.slice Ag 4 cg) rfl
  have Br_12 := Lib.hid (blk_alloc (below_blk hb Br_11.out) (.cells #[.slice Ax 6 cx] 24))
  have Lr_12 := blk_cell Br_12.out 0 (.slice Ar 5 cr) rfl
  have Bu_12 := Lib.hid (blk_alloc (below_blk hb Bu_11.out) (.cells #[.slice Ax 6 cx] 24))
  have Lu_12 := blk_cell Bu_12.out 0 (.slice Au 7 cu) rfl
  have Bx_12 := Lib.hid (heap_alloc_new w12 (.cells #[.slice Ax 6 cx] 24))
  have HB_12 := Lib.hid ((below_step HB_11.out hb).alloc (below_step HB_11.out hb).size (.cells #[.slice Ax 6 cx] 24))
  clear hb HB_11 Ct_11 Cg_11 Cr_11 Cu_11 Bt_11 Lt_11 Bg_11 Lg_11 Br_11 Lr_11 Bu_11 Lu_11
  go_wp2_with fail
  generalize hW : w12.alloc (.cells #[.slice Ax 6 cx] 24) = v12 at *
  clear hW
  generalize hPx : w12.heap.size = Px at *
  clear hPx
  have Lx_12 := blk_cell Bx_12.out 0 (.slice Ax 6 cx) rfl
  clear z0 z1 z2 z3 z4 z5 z6 z7 z8 z9 z10 z11
  refine (right_tree (some ad) ct tT 3 0 rfl (by decide) rT _ Ct_12.out).mono ?_
  rintro e w13 ⟨rfl, hb⟩
  have Ct_13 := Lib.hid (Kd.C_below Ct_12.out hb)
  have Cg_13 := Lib.hid (Kd.C_below Cg_12.out hb)
  have Cu_13 := Lib.hid (Kd.C_below Cu_12.out hb)
  have Cx_13 := Lib.hid (Kd.C_below Cx_12.out hb)
  have Bt_13 := Lib.hid (below_blk hb Bt_12.out)
  have Lt_13 := blk_cell Bt_13.out 0 (.slice (some ad) 3 ct) rfl
  have Bg_13 := Lib.hid (below_blk hb Bg_12.out)
  have Lg_13 := blk_cell Bg_13.out 0 (.slice Ag 4 cg) rfl
  have Bu_13 := Lib.hid (below_blk hb Bu_12.out)
  have Lu_13 := blk_cell Bu_13.out 0 (.slice Au 7 cu) rfl
  have Bx_13 := Lib.hid (below_blk hb Bx_12.out)
  have Lx_13 := blk_cell Bx_13.out 0 (.slice Ax 6 cx) rfl
  have HB_13 := Lib.hid (below_step HB_12.out hb)
  clear hb HB_12 Ct_12 Cg_12 Cu_12 Cx_12 Bt_12 Lt_12 Bg_12 Lg_12 Bu_12 Lu_12 Bx_12 Lx_12
  go_wp2_with fail
  refine (right_tree Au cu tU 7 0 rfl (by decide) rU _ Cu_13.out).mono ?_
  rintro e w14 ⟨rfl, hb⟩
  have Ct_14 := Lib.hid (Kd.C_below Ct_13.out hb)
  have Cg_14 := Lib.hid (Kd.C_below Cg_13.out hb)
  have Cu_14 := Lib.hid (Kd.C_below Cu_13.out hb)
  have Cx_14 := Lib.hid (Kd.C_below Cx_13.out hb)
  have Bt_14 := Lib.hid (below_blk hb Bt_13.out)
  have Lt_14 := blk_cell Bt_14.out 0 (.slice (some ad) 3 ct) rfl
  have Bg_14 := Lib.hid (below_blk hb Bg_13.out)
  have Lg_14 := blk_cell Bg_14.out 0 (.slice Ag 4 cg) rfl
  have Bu_14 := Lib.hid (below_blk hb Bu_13.out)
  have Lu_14 := blk_cell Bu_14.out 0 (.slice Au 7 cu) rfl
  have Bx_14 := Lib.hid (below_blk hb Bx_13.out)
  have Lx_14 := blk_cell Bx_14.out 0 (.slice Ax 6 cx) rfl
  have HB_14 := Lib.hid (below_step HB_13.out hb)
  clear hb HB_13 Ct_13 Cg_13 Cu_13 Cx_13 Bt_13 Lt_13 Bg_13 Lg_13 Bu_13 Lu_13 Bx_13 Lx_13
  go_wp2_with fail
  refine (groups_tree Au cu tU 7 1 rfl (by decide) Hu.out gU _ Cu_14.out).mono ?_
  rintro e w15 ⟨rfl, hb⟩
  have Ct_15 := Lib.hid (Kd.C_below Ct_14.out hb)
  have Cg_15 := Lib.hid (Kd.C_below Cg_14.out hb)
  have Cu_15 := Lib.hid (Kd.C_below Cu_14.out hb)
  have Cx_15 := Lib.hid (Kd.C_below Cx_14.out hb)
  have Bt_15 := Lib.hid (below_blk hb Bt_14.out)
  have Lt_15 := blk_cell Bt_15.out 0 (.slice (some ad) 3 ct) rfl
  have Bg_15 := Lib.hid (below_blk hb Bg_14.out)
  have Lg_15 := blk_cell Bg_15.out 0 (.slice Ag 4 cg) rfl
  have Bu_15 := Lib.hid (below_blk hb Bu_14.out)
  have Lu_15 := blk_cell Bu_15.out 0 (.slice Au 7 cu) rfl
  have Bx_15 := Lib.hid (below_blk hb Bx_14.out)
  have Lx_15 := blk_cell Bx_15.out 0 (.slice Ax 6 cx) rfl
  have HB_15 := Lib.hid (below_step HB_14.out hb)
  clear hb HB_14 Ct_14 Cg_14 Cu_14 Cx_14 Bt_14 Lt_14 Bg_14 Lg_14 Bu_14 Lu_14 Bx_14 Lx_14
  go_wp2_with fail
  refine (deep_tree Au cu tU 7 5 rfl (by decide) dU _ Cu_15.out).mono ?_
  rintro e w16 ⟨rfl, hb⟩
  have Ct_16 := Lib.hid (Kd.C_below Ct_15.out hb)
  have Cg_16 := Lib.hid (Kd.C_below Cg_15.out hb)
  have Cu_16 := Lib.hid (Kd.C_below Cu_15.out hb)
  have Cx_16 := Lib.hid (Kd.C_below Cx_15.out hb)
  have Bt_16 := Lib.hid (below_blk hb Bt_15.out)
  have Lt_16 := blk_cell Bt_16.out 0 (.slice (some ad) 3 ct) rfl
  have Bg_16 := Lib.hid (below_blk hb Bg_15.out)
  have Lg_16 := blk_cell Bg_16.out 0 (.slice Ag 4 cg) rfl
  have Bu_16 := Lib.hid (below_blk hb Bu_15.out)
  have Lu_16 := blk_cell Bu_16.out 0 (.slice Au 7 cu) rfl
  have Bx_16 := Lib.hid (below_blk hb Bx_15.out)
  have Lx_16 := blk_cell Bx_16.out 0 (.slice Ax 6 cx) rfl
  have HB_16 := Lib.hid (below_step HB_15.out hb)
  clear hb HB_15 Ct_15 Cg_15 Cu_15 Cx_15 Bt_15 Lt_15 Bg_15 Lg_15 Bu_15 Lu_15 Bx_15 Lx_15
  go_wp2_with fail
  refine (right_tree Ax cx tX 6 7 rfl (by decide) rX _ Cx_16.out).mono ?_
  rintro e w17 ⟨rfl, hb⟩
  have Ct_17 := Lib.hid (Kd.C_below Ct_16.out hb)
  have Cg_17 := Lib.hid (Kd.C_below Cg_16.out hb)
  have Cu_17 := Lib.hid (Kd.C_below Cu_16.out hb)
  have Cx_17 := Lib.hid (Kd.C_below Cx_16.out hb)
  have Bt_17 := Lib.hid (below_blk hb Bt_16.out)
  have Lt_17 := blk_cell Bt_17.out 0 (.slice (some ad) 3 ct) rfl
  have Bg_17 := Lib.hid (below_blk hb Bg_16.out)
  have Lg_17 := blk_cell Bg_17.out 0 (.slice Ag 4 cg) rfl
  have Bu_17 := Lib.hid (below_blk hb Bu_16.out)
  have Lu_17 := blk_cell Bu_17.out 0 (.slice Au 7 cu) rfl
  have Bx_17 := Lib.hid (below_blk hb Bx_16.out)
  have Lx_17 := blk_cell Bx_17.out 0 (.slice Ax 6 cx) rfl
  have HB_17 := Lib.hid (below_step HB_16.out hb)
  clear hb HB_16 Ct_16 Cg_16 Cu_16 Cx_16 Bt_16 Lt_16 Bg_16 Lg_16 Bu_16 Lu_16 Bx_16 Lx_16
  go_wp2_with fail
  refine (right_tree none 0 [] 0 3 rfl (by decide) rN _ (nilC _)).mono ?_
  rintro e w18 ⟨rfl, hb⟩
  have Ct_18 := Lib.hid (Kd.C_below Ct_17.out hb)
  have Cg_18 := Lib.hid (Kd.C_below Cg_17.out hb)
  have Cu_18 := Lib.hid (Kd.C_below Cu_17.out hb)
  have Cx_18 := Lib.hid (Kd.C_below Cx_17.out hb)
  have Bt_18 := Lib.hid (below_blk hb Bt_17.out)
  have Lt_18 := blk_cell Bt_18.out 0 (.slice (some ad) 3 ct) rfl
  have Bg_18 := Lib.hid (below_blk hb Bg_17.out)
  have Lg_18 := blk_cell Bg_18.out 0 (.slice Ag 4 cg) rfl
  have Bu_18 := Lib.hid (below_blk hb Bu_17.out)
  have Lu_18 := blk_cell Bu_18.out 0 (.slice Au 7 cu) rfl
  have Bx_18 := Lib.hid (below_blk hb Bx_17.out)
  have Lx_18 := blk_cell Bx_18.out 0 (.slice Ax 6 cx) rfl
  have HB_18 := Lib.hid (below_step HB_17.out hb)
  clear hb HB_17 Ct_17 Cg_17 Cu_17 Cx_17 Bt_17 Lt_17 Bg_17 Lg_17 Bu_17 Lu_17 Bx_17 Lx_17
  go_wp2_with fail
  refine (leafK _).mono ?_
  rintro e w19 ⟨⟨Ak, ck, rfl, hle, C⟩, hb⟩
  have Ct_19 := Lib.hid (Kd.C_below Ct_18.out hb)
  have Cg_19 := Lib.hid (Kd.C_below Cg_18.out hb)
  have Cu_19 := Lib.hid (Kd.C_below Cu_18.out hb)
  have Cx_19 := Lib.hid (Kd.C_below Cx_18.out hb)
  have Ck_19 := Lib.hid C
  have Hk := Lib.hid hle
  clear C hle
  have Bt_19 := Lib.hid (below_blk hb Bt_18.out)
  have Lt_19 := blk_cell Bt_19.out 0 (.slice (some ad) 3 ct) rfl
  have Bg_19 := Lib.hid (below_blk hb Bg_18.out)
  have Lg_19 := blk_cell Bg_19.out 0 (.slice Ag 4 cg) rfl
  have Bu_19 := Lib.hid (below_blk hb Bu_18.out)
  have Lu_19 := blk_cell Bu_19.out 0 (.slice Au 7 cu) rfl
  have Bx_19 := Lib.hid (below_blk hb Bx_18.out)
  have Lx_19 := blk_cell Bx_19.out 0 (.slice Ax 6 cx) rfl
  have HB_19 := Lib.hid (below_step HB_18.out hb)
  clear hb HB_18 Ct_18 Cg_18 Cu_18 Cx_18 Bt_18 Lt_18 Bg_18 Lg_18 Bu_18 Lu_18 Bx_18 Lx_18
  go_wp2_with fail
  refine (right_tree Ak ck tK 1 6 rfl (by decide) rK _ Ck_19.out).mono ?_
  rintro e w20 ⟨rfl, hb⟩
  have Ct_20 := Lib.hid (Kd.C_below Ct_19.out hb)
  have Cg_20 := Lib.hid (Kd.C_below Cg_19.out hb)
  have Cu_20 := Lib.hid (Kd.C_below Cu_19.out hb)
  have Cx_20 := Lib.hid (Kd.C_below Cx_19.out hb)
  have Ck_20 := Lib.hid (Kd.C_below Ck_19.out hb)
  have Bt_20 := Lib.hid (below_blk hb Bt_19.out)
  have Lt_20 := blk_cell Bt_20.out 0 (.slice (some ad) 3 ct) rfl
  have Bg_20 := Lib.hid (below_blk hb Bg_19.out)
  have Lg_20 := blk_cell Bg_20.out 0 (.slice Ag 4 cg) rfl
  have Bu_20 := Lib.hid (below_blk hb Bu_19.out)
  have Lu_20 := blk_cell Bu_20.out 0 (.slice Au 7 cu) rfl
  have Bx_20 := Lib.hid (below_blk hb Bx_19.out)
  have Lx_20 := blk_cell Bx_20.out 0 (.slice Ax 6 cx) rfl
  have HB_20 := Lib.hid (below_step HB_19.out hb)
  clear hb HB_19 Ct_19 Cg_19 Cu_19 Cx_19 Ck_19 Bt_19 Lt_19 Bg_19 Lg_19 Bu_19 Lu_19 Bx_19 Lx_19
  go_wp2_with fail
  refine (leafE _).mono ?_
  rintro e w21 ⟨⟨Ae, ce, rfl, hle, C⟩, hb⟩
  have Ct_21 := Lib.hid (Kd.C_below Ct_20.out hb)
  have Cg_21 := Lib.hid (Kd.C_below Cg_20.out hb)
  have Cu_21 := Lib.hid (Kd.C_below Cu_20.out hb)
  have Cx_21 := Lib.hid (Kd.C_below Cx_20.out hb)
  have Ck_21 := Lib.hid (Kd.C_below Ck_20.out hb)
  have Ce_21 := Lib.hid C
  have He := Lib.hid hle
  clear C hle
  have Bt_21 := Lib.hid (below_blk hb Bt_20.out)
  have Lt_21 := blk_cell Bt_21.out 0 (.slice (some ad) 3 ct) rfl
  have Bg_21 := Lib.hid (below_blk hb Bg_20.out)
  have Lg_21 := blk_cell Bg_21.out 0 (.slice Ag 4 cg) rfl
  have Bu_21 := Lib.hid (below_blk hb Bu_20.out)
  have Lu_21 := blk_cell Bu_21.out 0 (.slice Au 7 cu) rfl
  have Bx_21 := Lib.hid (below_blk hb Bx_20.out)
  have Lx_21 := blk_cell Bx_21.out 0 (.slice Ax 6 cx) rfl
  have HB_21 := Lib.hid (below_step HB_20.out hb)
  clear hb HB_20 Ct_20 Cg_20 Cu_20 Cx_20 Ck_20 Bt_20 Lt_20 Bg_20 Lg_20 Bu_20 Lu_20 Bx_20 Lx_20
  go_wp2_with fail
  refine (right_tree Ae ce tE 1 3 rfl (by decide) rE _ Ce_21.out).mono ?_
  rintro e w22 ⟨rfl, hb⟩
  have Ct_22 := Lib.hid (Kd.C_below Ct_21.out hb)
  have Cg_22 := Lib.hid (Kd.C_below Cg_21.out hb)
  have Cu_22 := Lib.hid (Kd.C_below Cu_21.out hb)
  have Cx_22 := Lib.hid (Kd.C_below Cx_21.out hb)
  have Ck_22 := Lib.hid (Kd.C_below Ck_21.out hb)
  have Ce_22 := Lib.hid (Kd.C_below Ce_21.out hb)
  have Bt_22 := Lib.hid (below_blk hb Bt_21.out)
  have Lt_22 := blk_cell Bt_22.out 0 (.slice (some ad) 3 ct) rfl
  have Bg_22 := Lib.hid (below_blk hb Bg_21.out)
  have Lg_22 := blk_cell Bg_22.out 0 (.slice Ag 4 cg) rfl
  have Bu_22 := Lib.hid (below_blk hb Bu_21.out)
  have Lu_22 := blk_cell Bu_22.out 0 (.slice Au 7 cu) rfl
  have Bx_22 := Lib.hid (below_blk hb Bx_21.out)
  have Lx_22 := blk_cell Bx_22.out 0 (.slice Ax 6 cx) rfl
  have HB_22 := Lib.hid (below_step HB_21.out hb)
  clear hb HB_21 Ct_21 Cg_21 Cu_21 Cx_21 Ck_21 Ce_21 Bt_21 Lt_21 Bg_21 Lg_21 Bu_21 Lu_21 Bx_21 Lx_21
  go_wp2_with fail
  refine (same_tree (some ad) ct tT 3 (some ad) ct tT 3 true rfl rfl (by decide) Ht.out Ht.out sT _ Ct_22.out Ct_22.out).mono ?_
  rintro e w23 ⟨rfl, hb⟩
  have Ct_23 := Lib.hid (Kd.C_below Ct_22.out hb)
  have Cg_23 := Lib.hid (Kd.C_below Cg_22.out hb)
  have Cu_23 := Lib.hid (Kd.C_below Cu_22.out hb)
  have Cx_23 := Lib.hid (Kd.C_below Cx_22.out hb)
  have Ck_23 := Lib.hid (Kd.C_below Ck_22.out hb)
  have Ce_23 := Lib.hid (Kd.C_below Ce_22.out hb)
  have Bt_23 := Lib.hid (below_blk hb Bt_22.out)
  have Lt_23 := blk_cell Bt_23.out 0 (.slice (some ad) 3 ct) rfl
  have Bg_23 := Lib.hid (below_blk hb Bg_22.out)
  have Lg_23 := blk_cell Bg_23.out 0 (.slice Ag 4 cg) rfl
  have Bu_23 := Lib.hid (below_blk hb Bu_22.out)
  have Lu_23 := blk_cell Bu_23.out 0 (.slice Au 7 cu) rfl
  have Bx_23 := Lib.hid (below_blk hb Bx_22.out)
  have Lx_23 := blk_cell Bx_23.out 0 (.slice Ax 6 cx) rfl
  have HB_23 := Lib.hid (below_step HB_22.out hb)
  clear hb HB_22 Ct_22 Cg_22 Cu_22 Cx_22 Ck_22 Ce_22 Bt_22 Lt_22 Bg_22 Lg_22 Bu_22 Lu_22 Bx_22 Lx_22
  go_wp2_with fail
  refine (same_tree (some ad) ct tT 3 Ag cg tG 4 false rfl rfl (by decide) Ht.out Hg.out sG _ Ct_23.out Cg_23.out).mono ?_
  rintro e w24 ⟨rfl, hb⟩
  have Ct_24 := Lib.hid (Kd.C_below Ct_23.out hb)
  have Cg_24 := Lib.hid (Kd.C_below Cg_23.out hb)
  have Cu_24 := Lib.hid (Kd.C_below Cu_23.out hb)
  have Cx_24 := Lib.hid (Kd.C_below Cx_23.out hb)
  have Ck_24 := Lib.hid (Kd.C_below Ck_23.out hb)
  have Ce_24 := Lib.hid (Kd.C_below Ce_23.out hb)
  have Bt_24 := Lib.hid (below_blk hb Bt_23.out)
  have Lt_24 := blk_cell Bt_24.out 0 (.slice (some ad) 3 ct) rfl
  have Bg_24 := Lib.hid (below_blk hb Bg_23.out)
  have Lg_24 := blk_cell Bg_24.out 0 (.slice Ag 4 cg) rfl
  have Bu_24 := Lib.hid (below_blk hb Bu_23.out)
  have Lu_24 := blk_cell Bu_24.out 0 (.slice Au 7 cu) rfl
  have Bx_24 := Lib.hid (below_blk hb Bx_23.out)
  have Lx_24 := blk_cell Bx_24.out 0 (.slice Ax 6 cx) rfl
  have HB_24 := Lib.hid (below_step HB_23.out hb)
  clear hb HB_23 Ct_23 Cg_23 Cu_23 Cx_23 Ck_23 Ce_23 Bt_23 Lt_23 Bg_23 Lg_23 Bu_23 Lu_23 Bx_23 Lx_23
  go_wp2
  go_ret
  exact ⟨rfl, HB_24.out⟩
end Go.Proofs.Ytjeoiebdchlilaa.DFixed
end
