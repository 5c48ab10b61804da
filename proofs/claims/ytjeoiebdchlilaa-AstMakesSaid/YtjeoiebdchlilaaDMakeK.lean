/- What AstMakes needs: a node's cells, a row of one node that a literal makes; trees that a region makes. -/
import Derived.Test.YtjeoiebdchlilaaDRSame
import Derived.Test.YtjeoiebdchlilaaWFourB
namespace Go.Proofs.Ytjeoiebdchlilaa.DMakeK
open Go.RowKit CMem DRow DDeep DSizes DFits DLens DSpec DGrp DCon DOdd DRowN DWrap DJoin DGrouped DRight DRJoin DRFits DRef DRefB DCut DTree DKit DRSame Q Go.Proofs.YtjeoiebdchlilaaW.PrintWords
set_option linter.unusedVariables false
set_option linter.unusedSimpArgs false
abbrev t_ : Bool := true
abbrev f_ : Bool := false
theorem sa_ {α : Type} (l : List α) (i : Nat) (a : α) : l.toArray.setIfInBounds i a = (l.set i a).toArray := List.setIfInBounds_toArray _ _ _
theorem sz_ {α : Type} (x : α) (l : List α) (a : α) : (x :: l).set 0 a = a :: l := rfl
theorem ss_ {α : Type} (x : α) (l : List α) (i : Nat) (a : α) : (x :: l).set (i + 1) a = x :: l.set i a := rfl
theorem own_below {w w1 : World} {b q : Nat} {t : TypeId} {v : Value} {n : Nat} {cs : List Value} (h : w.ownsRow b t q v n cs) (hb : Below w.heap.size w w1) : w1.ownsRow b t q v n cs :=
  own_move h (fun k hk => hb.block k (own_lt h k hk))
theorem own_set {W : World} {b P n : Nat} {v val : Value} {cs : List Value} {o : Array Value} (h : W.ownsRow b 43 12 v n cs) (hR : W.heap[P]? = some (.cells o 24 (0, 0))) : (W.setCell ⟨P, 0, none⟩ val).ownsRow b 43 12 v n cs :=
  own_move h (fun j hj => Below.heap_setCell W ⟨P, 0, none⟩ _ j (by
    rintro rfl
    obtain ⟨cs, hcs⟩ := own_typed h _ hj
    rw [hR] at hcs
    injection hcs with hcs
    injection hcs with _ hcs
    exact absurd hcs (by decide)))
theorem own_Cs {w : World} {base n c : Nat} {A : Option Addr} {xs : List S43} (hn : xs.length = n) (hm : n ≤ 1001) (h : w.ownsRow base 43 12 (.slice A n c) n (ra xs)) : Kd.C k43 w A n xs := by
  obtain ⟨A', c', he, _, hC⟩ := own_C hn hm h
  injection he with e1 e2 e3
  subst e1
  exact hC
theorem join_own (A : Option Addr) (c : Nat) (L M R : List S43) (n m q : Nat) (hn : L.length = n) (A2 : Option Addr) (c2 : Nat) (hm : M.length = m) (hnm : n + m ≤ 999) (hq : n + m + 1 = q) (kind : Int) (hR : L ++ M.map (shift n) ++ [⟨kind, (n : Int) - 1, (n : Int) + m - 1, z41, 0, 0, 0, 0, false⟩] = R) (w : World) (hr : Kd.C k43 w A n L) (hr2 : Kd.C k43 w A2 m M) :
    Calls Try.prog 22 #[.agg #[.slice A n c], .agg #[.slice A2 m c2], .int .i64 kind] w fun e w' =>
      (∃ v, e = .returned (.agg #[v]) ∧ w'.ownsRow w.heap.size 43 12 v q (ra R)) ∧ Below w.heap.size w w' := by
  subst hR hq
  exact join_calls A c L n hn A2 c2 M m hm hnm kind w hr hr2
theorem wrap_own (A : Option Addr) (c : Nat) (L R : List S43) (n q : Nat) (hn : L.length = n) (hn2 : n ≤ 999) (hq : n + 1 = q) (k xa xb s0 s1 s2 s3 mi ma mo nn : Int) (fo : Bool) (hR : L ++ [⟨k, (n : Int) - 1, 0, ⟨⟨s0, s1, s2, s3⟩⟩, mi, ma, mo, nn, fo⟩] = R) (w : World) (hr : Kd.C k43 w A n L) :
    Calls Try.prog 21 #[.agg #[.slice A n c], .agg #[.int .i64 k, .int .i64 xa, .int .i64 xb, .int .u64 s0, .int .u64 s1, .int .u64 s2, .int .u64 s3, .int .i64 mi, .int .i64 ma, .int .i64 mo, .int .i64 nn, .bool fo]] w fun e w' =>
      (∃ v, e = .returned (.agg #[v]) ∧ w'.ownsRow w.heap.size 43 12 v q (ra R)) ∧ Below w.heap.size w w' := by
  subst hR hq
  exact wrap_calls A c L n hn hn2 k xa xb s0 s1 s2 s3 mi ma mo nn fo w hr
abbrev Nod (w : World) (P : Nat) (z : S43) : Prop := (w.cell? ⟨P, 0, none⟩ = some (.int .i64 z.f0) ∧ w.cell? ⟨P, 1, none⟩ = some (.int .i64 z.f1) ∧ w.cell? ⟨P, 2, none⟩ = some (.int .i64 z.f2) ∧ w.cell? ⟨P, 3, none⟩ = some (.int .u64 z.f3.f0.f0) ∧ w.cell? ⟨P, 4, none⟩ = some (.int .u64 z.f3.f0.f1) ∧ w.cell? ⟨P, 5, none⟩ = some (.int .u64 z.f3.f0.f2) ∧ w.cell? ⟨P, 6, none⟩ = some (.int .u64 z.f3.f0.f3) ∧ w.cell? ⟨P, 7, none⟩ = some (.int .i64 z.f4) ∧ w.cell? ⟨P, 8, none⟩ = some (.int .i64 z.f5) ∧ w.cell? ⟨P, 9, none⟩ = some (.int .i64 z.f6) ∧ w.cell? ⟨P, 10, none⟩ = some (.int .i64 z.f7) ∧ w.cell? ⟨P, 11, none⟩ = some (.bool z.f8))
theorem nod_below {w w1 : World} {P : Nat} {z : S43} (hb : Below w.heap.size w w1) (h : Nod w P z) : Nod w1 P z := by
  obtain ⟨h0, h1, h2, h3, h4, h5, h6, h7, h8, h9, h10, h11⟩ := h
  exact ⟨below_of hb h0, below_of hb h1, below_of hb h2, below_of hb h3, below_of hb h4, below_of hb h5, below_of hb h6, below_of hb h7, below_of hb h8, below_of hb h9, below_of hb h10, below_of hb h11⟩
theorem nod_of {w : World} {P : Nat} {z : S43} (h : w.heap[P]? = some (.cells (nc z) 43 (0, 0))) : Nod w P z :=
  ⟨blk_cell h 0 _ rfl, blk_cell h 1 _ rfl, blk_cell h 2 _ rfl, blk_cell h 3 _ rfl, blk_cell h 4 _ rfl, blk_cell h 5 _ rfl, blk_cell h 6 _ rfl, blk_cell h 7 _ rfl, blk_cell h 8 _ rfl, blk_cell h 9 _ rfl, blk_cell h 10 _ rfl, blk_cell h 11 _ rfl⟩
/-- what the region's loads need -/
abbrev Sm (v : World) (p : Nat) (A : Option Addr) (k c : Nat) (B : Option Addr) (q d : Nat) (z : S43) (w : World) : Prop :=
  w.cell? ⟨p, 0, none⟩ = some (.slice A k c) ∧ w.cell? ⟨p + 1, 0, none⟩ = some (.slice B q d) ∧ Nod w (p + 1 + 1) z ∧ Below v.heap.size v w
theorem sm_ {v w w1 : World} {p k c q d : Nat} {A B : Option Addr} {z : S43} (hb : Below w.heap.size w w1) (h : Sm v p A k c B q d z w) : Sm v p A k c B q d z w1 :=
  ⟨below_of hb h.1, below_of hb h.2.1, nod_below hb h.2.2.1, below_step h.2.2.2 hb⟩
/-- the same with the three trees made -/
abbrev Sq (v : World) (p : Nat) (A : Option Addr) (k c : Nat) (B : Option Addr) (q d : Nat) (z : S43) (P1 : Nat) (A1 : Option Addr) (n1 c1 P2 : Nat) (A2 : Option Addr) (n2 c2 P3 : Nat) (A3 : Option Addr) (n3 c3 : Nat) (w : World) : Prop :=
  Sm v p A k c B q d z w ∧ w.cell? ⟨P1, 0, none⟩ = some (.slice A1 n1 c1) ∧ w.cell? ⟨P2, 0, none⟩ = some (.slice A2 n2 c2) ∧ w.cell? ⟨P3, 0, none⟩ = some (.slice A3 n3 c3)
theorem sq_ {v w w1 : World} {p k c q d : Nat} {A B : Option Addr} {z : S43} {P1 n1 c1 P2 n2 c2 P3 n3 c3 : Nat} {A1 A2 A3 : Option Addr} (hb : Below w.heap.size w w1) (h : Sq v p A k c B q d z P1 A1 n1 c1 P2 A2 n2 c2 P3 A3 n3 c3 w) : Sq v p A k c B q d z P1 A1 n1 c1 P2 A2 n2 c2 P3 A3 n3 c3 w1 :=
  ⟨sm_ hb h.1, below_of hb h.2.1, below_of hb h.2.2.1, below_of hb h.2.2.2⟩
abbrev Z0 (w : World) (P : Nat) : Prop := w.heap[P]? = some (.cells #[.slice none 0 0] 24 (0, 0))
abbrev Ow (v w : World) (A : Option Addr) (n c : Nat) (L : List S43) : Prop := w.ownsRow v.heap.size 43 12 (.slice A n c) n (ra L)
theorem fresh_ {G : World → Prop} {c : World} (h : ∀ X, Below c.heap.size c X → Z0 X c.heap.size → G X) : G (c.alloc (.cells #[.slice none 0 0] 24)) := h _ (below1 _ _) (heap_alloc_new _ _)
theorem fresh0_ {G : World → Prop} {c : World} (h : ∀ X, Below c.drew.heap.size c.drew X → Z0 X c.drew.heap.size → G X) : G (c.alloc (.cells #[.slice none 0 0] 24)).drew := h _ (below1 c.drew _) (heap_alloc_new c.drew _)
theorem lit_C {w : World} {P : Nat} (z : S43) (t : TypeId) (h : w.heap[P]? = some (.cells (nc z) t (0, 0))) : Kd.C k50 w (some ⟨P, 0, none⟩) 1 ([z].map od) := by
  refine ⟨rfl, by decide, fun _ => ⟨_, rfl, fun j x hj => ?_⟩⟩
  obtain rfl : j = 0 := by
    rcases Nat.eq_zero_or_pos j with h | h
    · exact h
    · rw [List.getElem?_eq_none (by simp; omega)] at hj; cases hj
  obtain rfl := Option.some.inj hj
  refine ⟨_, rfl, k50_mk w _, fun i u hu => ?_⟩
  have hadd : (⟨P, 0, none⟩ : Addr).add (0 * k50.sz + i) = ⟨P, i, none⟩ := by unfold Addr.add; split <;> simp_all
  show w.cell? ((⟨P, 0, none⟩ : Addr).add (0 * k50.sz + i)) = some u
  rw [hadd]
  exact blk_cell h i u (by unfold nc; rw [List.getElem?_toArray]; exact hu)
end Go.Proofs.Ytjeoiebdchlilaa.DMakeK
