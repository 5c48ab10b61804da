/- Contracts over the document's trees: Same, Wrap, Join, One; and rows of nodes that are stored into. -/
import Derived.Test.YtjeoiebdchlilaaZ2
import Derived.OneCell
namespace Go.Proofs.Ytjeoiebdchlilaa.DRSame
open Go.RowKit CMem DRow DDeep DSizes DFits DLens DSpec DGrp DCon DOdd DRowN DWrap DJoin DGrouped DRight DRJoin DRFits DRef DRefB DCut DTree DKit Q Go.Proofs.YtjeoiebdchlilaaW.PrintWords
set_option linter.unusedVariables false
set_option linter.unusedSimpArgs false
theorem rsame_f (L M : List S43) (h : L.length = M.length) (hn2 : L.length ≤ 1000) : ∀ (d j : Nat), j + d = L.length → ∀ k, d + 1 ≤ k → clewref05_Same.l0 k (L.map od) (M.map od) j = some (sameb (L.drop j) (M.drop j))
  | 0, j, hj, k, hk => by
    obtain ⟨q, rfl⟩ : ∃ q, k = q + 1 := ⟨k - 1, by omega⟩
    rw [clewref05_Same.l0, if_neg (by rw [List.length_map]; omega), List.drop_eq_nil_of_le (by omega), List.drop_eq_nil_of_le (by omega)]
    rfl
  | d + 1, j, hj, k, hk => by
    obtain ⟨q, rfl⟩ : ∃ q, k = q + 1 := ⟨k - 1, by omega⟩
    have hq : d + 1 ≤ q := by omega
    have hjl : j < L.length := by omega
    have hjm : j < M.length := by omega
    have ih := rsame_f L M h hn2 d (j + 1) (by omega) q hq
    have w1 : wrap64 ((j : Int) + 1) = ((j + 1 : Nat) : Int) := by unfold wrap64; omega
    rw [sameb_drop L M h j hjl, clewref05_Same.l0, if_pos (by rw [List.length_map]; omega), if_pos (by omega), if_pos (by rw [List.length_map]; omega), w1, ih, rd_one L j hjl, rd_one M j hjm]
    unfold eqn od
    simp only []
    split
    · rename_i hh
      simp only [Bool.or_eq_true, Bool.not_eq_true'] at hh
      rcases hh with h | h | h | (h | h | h | h) | h | h | h | h | h <;> simp [h]
    · rename_i hh
      simp only [Bool.or_eq_true, Bool.not_eq_true', not_or, Bool.not_eq_false] at hh
      obtain ⟨h0, h1, h2, ⟨h3, h4, h5, h6⟩, h7, h8, h9, h10, h11⟩ := hh
      simp [h0, h1, h2, h3, h4, h5, h6, h7, h8, h9, h10, h11]
theorem rsame_tree (A : Option Addr) (c : Nat) (L : List S43) (n : Nat) (A2 : Option Addr) (c2 : Nat) (M : List S43) (m : Nat) (r : Bool) (hn : L.length = n) (hm : M.length = m) (hn2 : n ≤ 500) (hc : n ≤ c) (hc2 : m ≤ c2) (hr0 : sameb L M = r) (w : World) (hr : Kd.C k50 w A n (L.map od)) (hr2 : Kd.C k50 w A2 m (M.map od)) :
    Calls Try.prog 24 #[.slice A n c, .slice A2 m c2] w fun e w' => e = .returned (.bool r) ∧ Below w.heap.size w w' := by
  subst hn hm hr0
  have l1 : (L.map od).length = L.length := List.length_map ..
  have l2 : (M.map od).length = M.length := List.length_map ..
  have hf : clewref05_Same.f (L.length + 1) (L.map od) (M.map od) = some (sameb L M) := by
    unfold clewref05_Same.f
    rw [l1, l2]
    by_cases h : L.length = M.length
    · have := rsame_f L M h (by omega) L.length 0 (by omega) (L.length + 1) (Nat.le_refl _)
      rw [if_pos (by omega)]
      exact this
    · have hs : sameb L M = false := by
        cases hc : sameb L M
        · rfl
        · exact absurd (congrArg List.length ((sameb_iff L M).1 hc)) h
      rw [if_neg (by omega), hs]
  have h := clewref05_Same.calls (L.length + 1) A c (L.map od) A2 c2 (M.map od) _ w (by rw [l1]; exact hr) (by rw [l1]; exact hc) (by rw [l2]; exact hr2) (by rw [l2]; exact hc2) hf
  rw [l1, l2] at h
  exact h.mono fun e w' hh => ⟨hh.1, by first | exact hh.2 | exact hh.2.below⟩
theorem sameb_refl (L : List S43) : sameb L L = true := (sameb_iff L L).2 rfl
theorem rwrap_tree (A : Option Addr) (c : Nat) (L R : List S43) (n q : Nat) (hn : L.length = n) (hn2 : n ≤ 999) (hc : n ≤ c) (hq : n + 1 = q) (k xa xb s0 s1 s2 s3 mi ma mo nn : Int) (fo : Bool) (hR : L ++ [⟨k, (n : Int) - 1, 0, ⟨⟨s0, s1, s2, s3⟩⟩, mi, ma, mo, nn, fo⟩] = R) (w : World) (hr : Kd.C k50 w A n (L.map od)) :
    Calls Try.prog 25 #[.slice A n c, .agg #[.int .i64 k, .int .i64 xa, .int .i64 xb, .int .u64 s0, .int .u64 s1, .int .u64 s2, .int .u64 s3, .int .i64 mi, .int .i64 ma, .int .i64 mo, .int .i64 nn, .bool fo]] w fun e w' =>
      (∃ A c, e = .returned (.slice A q c) ∧ q ≤ c ∧ Kd.C k50 w' A q (R.map od)) ∧ Below w.heap.size w w' := by
  subst hn hq hR
  have l1 : (L.map od).length = L.length := List.length_map ..
  have hf : clewref05_Wrap.f (L.map od) k xa xb s0 s1 s2 s3 mi ma mo nn fo = some ((L ++ [(⟨k, (L.length : Int) - 1, 0, ⟨⟨s0, s1, s2, s3⟩⟩, mi, ma, mo, nn, fo⟩ : S43)]).map od) := by
    unfold clewref05_Wrap.f
    rw [Option.bind_some, if_pos (by rw [l1]; simp; omega), Option.bind_some, if_pos (by simp; omega), l1, List.map_append]
    have w1 : wrap64 ((L.length : Int) - 1) = (L.length : Int) - 1 := by unfold wrap64; omega
    rw [w1]
    rfl
  have h := clewref05_Wrap.calls A c (L.map od) k xa xb s0 s1 s2 s3 mi ma mo nn fo _ w (by rw [l1]; exact hr) (by rw [l1]; exact hc) hf
  rw [l1] at h
  refine h.mono ?_
  rintro e w' ⟨v, rfl, hR, hb⟩
  obtain ⟨A2, c2, rfl, hle, hC⟩ := Kd.R_reads hR
  simp only [List.length_map, List.length_append, List.length_cons, List.length_nil, Nat.zero_add] at hle hC
  exact ⟨⟨A2, c2, by simp, hle, hC⟩, hb⟩
theorem od_shift (n : Int) (x : S43) : rshift n (od x) = od (shift n x) := rfl
theorem rjoin_tree (A : Option Addr) (c : Nat) (L M R : List S43) (n m q : Nat) (hn : L.length = n) (A2 : Option Addr) (c2 : Nat) (hm : M.length = m) (hnm : n + m ≤ 999) (hq : n + m + 1 = q) (kind : Int) (hR : L ++ M.map (shift n) ++ [⟨kind, (n : Int) - 1, (n : Int) + m - 1, z41, 0, 0, 0, 0, false⟩] = R) (w : World) (hr : Kd.C k50 w A n (L.map od)) (hr2 : Kd.C k50 w A2 m (M.map od)) :
    Calls Try.prog 27 #[.slice A n c, .slice A2 m c2, .int .i64 kind] w fun e w' =>
      (∃ A c, e = .returned (.slice A q c) ∧ q ≤ c ∧ Kd.C k50 w' A q (R.map od)) ∧ Below w.heap.size w w' := by
  subst hq hR
  refine (rjoin_calls A c (L.map od) n (by rw [List.length_map]; exact hn) A2 c2 (M.map od) m (by rw [List.length_map]; exact hm) hnm kind w hr hr2).mono ?_
  rintro e w' ⟨⟨v, rfl, hR⟩, hb⟩
  have e1 : L.map od ++ (M.map od).map (rshift n) ++ [⟨kind, (n : Int) - 1, (n : Int) + m - 1, z39, 0, 0, 0, 0, false⟩] = (L ++ M.map (shift n) ++ [(⟨kind, (n : Int) - 1, (n : Int) + m - 1, z41, 0, 0, 0, 0, false⟩ : S43)]).map od := by
    rw [List.map_append, List.map_append, List.map_map, List.map_map]
    rfl
  rw [e1] at hR
  obtain ⟨A2, c2, rfl, hle, hC⟩ := Kd.R_reads hR
  simp only [List.length_map, List.length_append, List.length_cons, List.length_nil, Nat.zero_add, hn, hm] at hle hC
  exact ⟨⟨A2, c2, by simp [hn, hm]; omega, hle, hC⟩, hb⟩
theorem one_tree (k xa xb s0 s1 s2 s3 mi ma mo nn : Int) (fo : Bool) (w : World) :
    Calls Try.prog 26 #[.agg #[.int .i64 k, .int .i64 xa, .int .i64 xb, .int .u64 s0, .int .u64 s1, .int .u64 s2, .int .u64 s3, .int .i64 mi, .int .i64 ma, .int .i64 mo, .int .i64 nn, .bool fo]] w fun e w' =>
      e = .returned (.agg #[.int .i64 k, .int .i64 xa, .int .i64 xb, .int .u64 s0, .int .u64 s1, .int .u64 s2, .int .u64 s3, .int .i64 mi, .int .i64 ma, .int .i64 mo, .int .i64 nn, .bool fo]) ∧ Below w.heap.size w w' :=
  clewlaw05_One.calls k xa xb s0 s1 s2 s3 mi ma mo nn fo k xa xb s0 s1 s2 s3 mi ma mo nn fo w rfl
/-! two rows of nodes that a law has made, and stores into -/
theorem own_neT {W : World} {b1 g P n c : Nat} {xs : List Value} {o : Array Value} (h : W.ownsRow b1 43 12 (.slice (some ⟨g, 0, none⟩) n c) n xs) (hR : W.heap[P]? = some (.cells o 24 (0, 0))) : P ≠ g := by
  rintro rfl
  obtain ⟨cs, hcs⟩ := own_typed h P rfl
  rw [hR] at hcs
  injection hcs with hcs
  injection hcs with _ hcs
  exact absurd hcs (by decide)
theorem own_bs {W : World} {b g n c : Nat} {e : TypeId} {xs : List Value} (h : W.ownsRow b e 12 (.slice (some ⟨g, 0, none⟩) n c) n xs) : b ≤ g ∧ g < W.heap.size := h.lt g rfl
theorem own_form {W : World} {b n c : Nat} {A : Option Addr} {e : TypeId} {xs : List Value} (h : W.ownsRow b e 12 (.slice A n c) n xs) (hn : 0 < n) : ∃ g, A = some ⟨g, 0, none⟩ := by
  rcases h.2 with ⟨_, h0⟩ | ⟨g, cap, cur, hv, _⟩
  · omega
  · injection hv with h1 _ _
    exact ⟨g, h1⟩
/-- two trees made behind a world w, in their blocks; the rows' cells may change -/
structure Two (w W : World) (g1 c1 n1 P1 g2 c2 n2 P2 : Nat) : Prop where
  ne : g1 ≠ g2
  o1 : ∃ xs, W.ownsRow w.heap.size 43 12 (.slice (some ⟨g1, 0, none⟩) n1 c1) n1 xs
  o2 : ∃ xs, W.ownsRow w.heap.size 43 12 (.slice (some ⟨g2, 0, none⟩) n2 c2) n2 xs
  b1 : W.heap[P1]? = some (.cells #[.slice (some ⟨g1, 0, none⟩) n1 c1] 24 (0, 0))
  b2 : W.heap[P2]? = some (.cells #[.slice (some ⟨g2, 0, none⟩) n2 c2] 24 (0, 0))
  bl : Below w.heap.size w W
theorem Two.set1 {w W : World} {g1 c1 n1 P1 g2 c2 n2 P2 : Nat} (h : Two w W g1 c1 n1 P1 g2 c2 n2 P2) (j : Nat) (u : Value) : Two w (W.setCell ⟨g1, j, none⟩ u) g1 c1 n1 P1 g2 c2 n2 P2 := by
  obtain ⟨hne, ⟨xs, h1⟩, ⟨ys, h2⟩, hb1, hb2, hb⟩ := h
  exact ⟨hne, ⟨_, (h1.stored j u).1⟩, ⟨ys, ownsRow_setCell_other h2 (a := ⟨g1, j, none⟩) (fun e => hne (Option.some.inj (show some g2 = some g1 from e)).symm) u⟩, set_other hb1 (own_neT h1 hb1), set_other hb2 (own_neT h1 hb2), below_set hb (own_bs h1).1 u⟩
theorem Two.set2 {w W : World} {g1 c1 n1 P1 g2 c2 n2 P2 : Nat} (h : Two w W g1 c1 n1 P1 g2 c2 n2 P2) (j : Nat) (u : Value) : Two w (W.setCell ⟨g2, j, none⟩ u) g1 c1 n1 P1 g2 c2 n2 P2 := by
  obtain ⟨hne, ⟨xs, h1⟩, ⟨ys, h2⟩, hb1, hb2, hb⟩ := h
  exact ⟨hne, ⟨xs, ownsRow_setCell_other h1 (a := ⟨g2, j, none⟩) (fun e => hne (Option.some.inj (show some g1 = some g2 from e))) u⟩, ⟨_, (h2.stored j u).1⟩, set_other hb1 (own_neT h2 hb1), set_other hb2 (own_neT h2 hb2), below_set hb (own_bs h2).1 u⟩
theorem own_at {W : World} {b g n c : Nat} (h : ∃ xs, W.ownsRow b 43 12 (.slice (some ⟨g, 0, none⟩) n c) n xs) (j : Nat) (hj : j < n * 12) : (∃ v, W.cell? ⟨g, j, none⟩ = some v) ∧ W.frozen? ⟨g, j, none⟩ = false := by
  obtain ⟨xs, h⟩ := h
  exact ⟨⟨_, (h.cellAt j hj).trans (List.getElem?_eq_getElem (by rw [h.1]; exact hj))⟩, h.frozenAt j⟩
theorem leaf_R (k xa xb s0 s1 s2 s3 mi ma mo nn : Int) (fo : Bool) (w : World) :
    Calls Try.prog 23 #[.agg #[.int .i64 k, .int .i64 xa, .int .i64 xb, .int .u64 s0, .int .u64 s1, .int .u64 s2, .int .u64 s3, .int .i64 mi, .int .i64 ma, .int .i64 mo, .int .i64 nn, .bool fo]] w fun e w' =>
      (∃ A c, e = .returned (.agg #[.slice A 1 c]) ∧ 1 ≤ c ∧ Kd.R k43 43 w' w.heap.size (fun _ => True) (.slice A 1 c) [⟨k, xa, xb, ⟨⟨s0, s1, s2, s3⟩⟩, mi, ma, mo, nn, fo⟩]) ∧ Below w.heap.size w w' := by
  refine (ast_Leaf.calls k xa xb s0 s1 s2 s3 mi ma mo nn fo _ w rfl).mono ?_
  rintro e w' ⟨v, rfl, hR, hb⟩
  obtain ⟨A, c, rfl, hle, hC⟩ := Kd.R_reads hR
  exact ⟨⟨A, c, rfl, hle, hR⟩, hb⟩
theorem R_set {α : Type} {d : Kd α} {e : Nat} {w : World} {base : Nat} {ok : Nat → Prop} {v : Value} {xs : List α} (h : d.R e w base ok v xs) {p : Nat} (hp : p < base) (i : Nat) (u : Value) : d.R e (w.setCell ⟨p, i, none⟩ u) base ok v xs :=
  Kd.R_mono (Kd.R_move (Kd.R_bound h) (fun k hk => Below.heap_setCell w ⟨p, i, none⟩ u k (by have := hk.2.1; show k ≠ p; omega))) (fun _ hk => hk.1)
theorem R_C {α : Type} {d : Kd α} {e : Nat} {w : World} {base : Nat} {ok : Nat → Prop} {A : Option Addr} {n c : Nat} {xs : List α} (h : d.R e w base ok (.slice A n c) xs) : d.C w A n xs := by
  obtain ⟨h1, _, h2⟩ := Kd.R_reads' h
  subst h1
  exact h2
theorem C_setT {w : World} {base P n c : Nat} {A : Option Addr} {ok : Nat → Prop} {xs : List S43} {o : Array Value} (h : Kd.R k43 43 w base ok (.slice A n c) xs) (hR : w.heap[P]? = some (.cells o 24 (0, 0))) (u : Value) : Kd.C k43 (w.setCell ⟨P, 0, none⟩ u) A n xs :=
  R_C (Kd.R_far (Kd.R_types h hR (fun q hq => by have := List.mem_singleton.1 hq; omega)) (p := ⟨P, 0, none⟩) (fun k hk => hk.2) u)
theorem leaf_own (k xa xb s0 s1 s2 s3 mi ma mo nn : Int) (fo : Bool) (R : List S43) (hR : [⟨k, xa, xb, ⟨⟨s0, s1, s2, s3⟩⟩, mi, ma, mo, nn, fo⟩] = R) (w : World) :
    Calls Try.prog 23 #[.agg #[.int .i64 k, .int .i64 xa, .int .i64 xb, .int .u64 s0, .int .u64 s1, .int .u64 s2, .int .u64 s3, .int .i64 mi, .int .i64 ma, .int .i64 mo, .int .i64 nn, .bool fo]] w fun e w' =>
      (∃ v, e = .returned (.agg #[v]) ∧ w'.ownsRow w.heap.size 43 12 v 1 (ra R)) ∧ Below w.heap.size w w' := by
  subst hR
  refine (leaf_R k xa xb s0 s1 s2 s3 mi ma mo nn fo w).mono ?_
  rintro e w' ⟨⟨A, c, rfl, hle, hR⟩, hb⟩
  refine ⟨⟨_, rfl, ?_⟩, hb⟩
  have hC := R_C hR
  obtain ⟨inner, ho⟩ := Kd.R_own hR
  have ho2 : w'.ownsRow w.heap.size 43 12 (.slice A 1 c) 1 inner := ho
  obtain ⟨g, rfl⟩ := own_form ho2 (by decide)
  obtain ⟨ad, he, hc⟩ := hC.2.2 (by decide)
  obtain rfl := Option.some.inj he
  obtain ⟨cs, _, hk, hcell⟩ := hc 0 _ rfl
  have hk2 := k43_open hk
  subst hk2
  have e : inner = ra [⟨k, xa, xb, ⟨⟨s0, s1, s2, s3⟩⟩, mi, ma, mo, nn, fo⟩] := by
    apply List.ext_getElem?
    intro j
    rcases Nat.lt_or_ge j 12 with hj | hj
    · have h1 := ho2.cellAt j (by omega)
      obtain ⟨v, hv⟩ : ∃ v, (nc ⟨k, xa, xb, ⟨⟨s0, s1, s2, s3⟩⟩, mi, ma, mo, nn, fo⟩).toList[j]? = some v := ⟨_, List.getElem?_eq_getElem (by rw [nc_len]; exact hj)⟩
      have h2 := hcell j v hv
      have hadd : (⟨g, 0, none⟩ : Addr).add (0 * k43.sz + j) = ⟨g, j, none⟩ := by unfold Addr.add; split <;> simp_all
      rw [hadd, h1] at h2
      rw [h2]
      show _ = ((nc _).toList ++ [])[j]?
      rw [List.append_nil, hv]
    · rw [List.getElem?_eq_none (by rw [ho2.1]; omega), List.getElem?_eq_none (by rw [ra_length]; simpa using hj)]
  rw [← e]
  exact ho2
end Go.Proofs.Ytjeoiebdchlilaa.DRSame
